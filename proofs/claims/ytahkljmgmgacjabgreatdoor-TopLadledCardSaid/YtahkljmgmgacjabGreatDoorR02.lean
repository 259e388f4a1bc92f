/- Regions whose order is open: each order that the edges allow. Conditions: none; over any program. (And 6 texts more.) -/
import Derived.Test.YtahkljmgmgacjabGreatDoorR01
import Derived.Orders
import Derived.IntWalk
import Derived.KernelRfl
set_option linter.unusedVariables false
set_option linter.unusedSimpArgs false
set_option linter.unusedSectionVars false

/- Regions whose order is open: each order that the edges allow. Conditions: none; over any program. -/
namespace Go.aS
abbrev Ev:=Nat→Option Value
def upd(ε:Ev)(d:Option Tmp)(v:Value):Ev:=match d with | some d=>fun s=>bif Nat.beq s d then some v else ε s | none=>ε
def UK(ε:Ev):Operand→Option Value
 | .tmp t=>ε t
 | .const v=>some v
 | .global g=>some (.pointer (some ⟨g,0,none⟩))
 | .func f=>some (.func (.func f) #[] #[])
def Cons(ε:Ev)(e:Operand→Value):Prop:=∀y v,UK ε y=some v→e y=v
theorem Ops.aev{x:Cx}{Q:Post}{ρ:Env}{ds:List Deferred}{F:eG}{ops:Array Oper}{i d:Nat}{rest:List Nat}{o:Oper}{j:Nat}{w:Bool}(ho:ops[i]? =some o)(hg:o.guard=some (j,w))(hj:(ops[j]?).bind (·.dst)=some d)(hv:look ρ d=some undef)(hd:d_ o.dst x.n=true)
  (H:Ops x ops rest Q (put ρ o.dst undef) ds F):Ops x ops (i::rest) Q ρ ds F:=by
 intro b k cs Stop tmps hk M h1 h0 h2 h3 h4 h5 hc
 have hw:Region.wanted o (yielded ops tmps)=false:=by
  simp only[Region.wanted,hg,yielded,hj,Option.bind_some,h3 d _ hv]
  rfl
 obtain⟨p1,p2⟩:=h3.put' h4 hd undef
 refine .idle rfl (fun _=>yZ ho hw) ?_
 rw[eY (cs:=cs) ho undef]
 exact H b k cs Stop _ _ _ h1 h0 h2 p1 p2 h5 hc

def dR(ops:Array Oper)(ε:Ev)(o:Oper)(w:Bool):Prop:=
 match o.guard with
 | none=>w=true
 | some (j,g)=>∃d v,(ops[j]?).bind (·.dst)=some d∧ε d=some v∧((∃b,v= .bool b∧(b==g)=w)∨(v=undef∧w=false))

theorem Dz(ρ:Env)(d:Option Tmp)(v:Value):upd (look ρ) d v=look (put ρ d v):=by
 cases d with
 | none=>rfl
 | some d=>rfl
theorem DC(ρ:Env):UK (look ρ)=ev ρ:=by funext x;cases x <;>rfl

def QO(x:Cx)(ops:Array Oper)(i:Nat)(K:Ev→eG→Prop)(ε:Ev)(F:eG):Prop:=
 ∃o,ops[i]? =some o∧d_ o.dst x.n=true∧(∀c,o.op≠ .defer c)∧
  (
   (dR ops ε o true∧∀e,Cons ε e→Dx x o e F fun v F'=>K (upd ε o.dst v) F')∨
   (dR ops ε o false∧K (upd ε o.dst undef) F))

theorem Wj{x:Cx}{ops:Array Oper}{i:Nat}{K K':Ev→eG→Prop}{ε:Ev}{F:eG}(H:QO x ops i K ε F)(hk:∀ε F,K ε F→K' ε F):QO x ops i K' ε F:=by
 obtain⟨o,h1,h2,h3,h4⟩:=H
 exact⟨o,h1,h2,h3,h4.imp (fun⟨a,b⟩=>⟨a,fun e he=>(b e he).mono fun v F=>hk _ _⟩) (fun⟨a,b⟩=>⟨a,hk _ _ b⟩)⟩

def iG(e:Edge):Bool:=Region.binds .any e
def Fq(ops:Array Oper)(listed:Nat)(i:Nat):Bool:=match ops[i]? with | some o=> !listed.testBit i&&o.after.all fun e=> !iG e|| listed.testBit e.on | none=>false
def qx(ops:Array Oper)(listed:Nat):List Nat:=(List.range ops.size).filter fun i=>Fq ops listed i

def aFO(ops:Array Oper):Nat→Nat→Nat→Bool
 | 0,i,j=>Nat.beq j i
 | n+1,i,j=>Nat.beq j i|| (match ops[i]? with | some o=>o.after.any fun e=>iG e&&aFO ops n e.on j | none=>false)
def lastT(ops:Array Oper)(i:Nat):Bool:=match ops[i]? with
 | some o=>(List.range ops.size).all fun j=>Nat.beq j i|| (o.after.any fun e=>iG e&&Nat.beq e.on j)|| (o.after.any fun e=>iG e&&aFO ops 3 e.on j)
 | none=>false
def MQ(ops:Array Oper)(listed:Nat):Bool:=(List.range ops.size).all fun k=> !listed.testBit k|| (match ops[k]? with | some o=>o.after.all fun e=> !iG e|| listed.testBit e.on | none=>true)
def Closed(ops:Array Oper)(listed:Nat):Prop:=∀k o,ops[k]? =some o→listed.testBit k=true→∀e∈o.after,iG e=true→listed.testBit e.on=true

def DI(x:Cx)(ops:Array Oper)(S:eG→Prop)(K:Ev→eG→Prop):Nat→Nat→Ev→eG→Prop
 | 0,listed,ε,F=>qx ops listed=[]∧K ε F
 | n+1,listed,ε,F=>(qx ops listed=[]→K ε F)∧∀i,Fq ops listed i=true→QO x ops i (fun ε' F'=>(lastT ops i=true∨S F')∧DI x ops S K n (listed||| 2 ^ i) ε' F') ε F

theorem testBit_or{n i j:Nat}:(n||| 2 ^ i).testBit j=(n.testBit j|| decide (i=j)):=by
 rw[Nat.testBit_or,Nat.testBit_two_pow]

theorem QT{ops:Array Oper}{listed i:Nat}(h:Fq ops listed i=true):i<ops.size:=by
 unfold Fq at h
 split at h
 ·rename_i o ho
  rcases Nat.lt_or_ge i ops.size with h' | h'
  ·exact h'
  ·rw[Array.getElem?_eq_none h']at ho;cases ho
 ·cases h

theorem o8{ops:Array Oper}{listed i:Nat}:i∈qx ops listed↔Fq ops listed i=true:=by
 simp only[qx,List.mem_filter,List.mem_range]
 exact⟨fun h=>h.2,fun h=>⟨QT h,h⟩⟩

theorem IC{ops:Array Oper}{listed i j:Nat}(h:Fq ops listed i=true)(hij:j≠i):Fq ops (listed||| 2 ^ j) i=true:=by
 unfold Fq at h⊢
 split at h
 ·rename_i o ho
  simp only[Bool.and_eq_true,Bool.not_eq_true',Array.all_eq_true_iff_forall_mem,Bool.or_eq_true]at h⊢
  simp only[ho,testBit_or,Bool.and_eq_true,Bool.not_eq_true',Bool.or_eq_false_iff,decide_eq_false_iff_not,Array.all_eq_true_iff_forall_mem,Bool.or_eq_true]
  exact⟨⟨h.1,hij⟩,fun e he=>(h.2 e he).imp id .inl⟩
 ·cases h

def Gu(x:Cx)(ops:Array Oper)(S:eG→Prop)(o:Oper)(v:Value)(ε:Ev):Prop:=
 (dR ops ε o true∧∀e,Cons ε e→∀F,S F→∀h',Ext x.h h'→tr x.P h' (execOp e o) F fun nx F'=>nx= .value v∧F'=F)∨(dR ops ε o false∧v=undef)

theorem Cons.drop{ε:Ev}{d:Nat}{v:Value}{e:Operand→Value}(h:Cons ε e):Cons (upd ε (some d) v) (fun y=>match y with | .tmp t=>bif Nat.beq t d then v else e (.tmp t) | y=>e y):=by
 intro y u hy
 cases y with
 | tmp t=>
  simp only[UK,upd]at hy
  cases hb:Nat.beq t d with
  | true=>rw[hb]at hy;simp only[cond_true,Option.some.injEq]at hy;simpa[hb]using hy
  | false=>rw[hb]at hy;simp only[cond_false]at hy;simpa[hb]using h (.tmp t) u hy
 | const c=>exact h _ _ hy
 | global g=>exact h _ _ hy
 | func f=>exact h _ _ hy

theorem wH{ops:Array Oper}{ε:Ev}{o:Oper}{w:Bool}{d:Nat}{v:Value}(h:d∉o.looksAt ops):dR ops (upd ε (some d) v) o w↔dR ops ε o w:=by
 unfold dR
 cases hg:o.guard with
 | none=>rfl
 | some jg=>
  obtain⟨j,g⟩:=jg
  constructor
  ·rintro⟨t,u,h1,h2,h3⟩
   refine⟨t,u,h1,?_,h3⟩
   have hne:t≠d:=fun e=>h (by subst e;simp[Oper.looksAt,hg,h1])
   have:Nat.beq t d=false:=by cases hb:Nat.beq t d with | false=>rfl | true=>exact absurd (Nat.eq_of_beq_eq_true hb) hne
   simpa[upd,this]using h2
  ·rintro⟨t,u,h1,h2,h3⟩
   refine⟨t,u,h1,?_,h3⟩
   have hne:t≠d:=fun e=>h (by subst e;simp[Oper.looksAt,hg,h1])
   have:Nat.beq t d=false:=by cases hb:Nat.beq t d with | false=>rfl | true=>exact absurd (Nat.eq_of_beq_eq_true hb) hne
   simpa[upd,this]using h2

theorem OJ{o:Oper}{ops:Array Oper}(hs:∀cs b,o.op≠ .select cs b){d:Nat}{v:Value}{e:Operand→Value}(h:d∉o.looksAt ops):
  execOp (fun y=>match y with | .tmp t=>bif Nat.beq t d then v else e (.tmp t) | y=>e y) o=execOp e o:=
 execOp_congr o hs fun y hy=>by
  cases y with
  | tmp t=>
   have hne:t≠d:=fun e=>h (by subst e;exact List.mem_append_left _ (List.mem_filterMap.2 ⟨.tmp t,by simpa using hy,rfl⟩))
   have:Nat.beq t d=false:=by cases hb:Nat.beq t d with | false=>rfl | true=>exact absurd (Nat.eq_of_beq_eq_true hb) hne
   simp[this]
  | _=>rfl

theorem Wl{ε:Ev}{d d':Nat}{v u:Value}(h:d≠d'):upd (upd ε (some d) v) (some d') u=upd (upd ε (some d') u) (some d) v:=by
 funext t
 simp only[upd]
 cases h1:Nat.beq t d <;>cases h2:Nat.beq t d' <;>try rfl
 exact absurd ((Nat.eq_of_beq_eq_true h1).symm.trans (Nat.eq_of_beq_eq_true h2)) h

theorem Zd{x:Cx}{ops:Array Oper}{S:eG→Prop}{j:Nat}{oi oj:Oper}{v:Value}(hj:ops[j]? =some oj)(hap:oi.apart ops oj=true)(hsi:∀cs b,oi.op≠ .select cs b)(hsj:∀cs b,oj.op≠ .select cs b)
  {K:Ev→eG→Prop} {ε:Ev} {F:eG} (hy:Gu x ops S oi v ε) (H:QO x ops j K (upd ε oi.dst v) F):QO x ops j (fun ε' F'=>Gu x ops S oi v ε'∧K (upd ε' oi.dst v) F') ε F:=by
 obtain⟨h1,h2,h3⟩:=Oper.apart_spec hap
 obtain⟨o,e,a1,a2,a3⟩:=H
 obtain rfl:oj=o:=Option.some.inj (hj.symm.trans e)
 have keep:∀ε,Gu x ops S oi v ε→∀u,Gu x ops S oi v (upd ε oj.dst u):=by
  intro ε hy u
  cases hd:oj.dst with
  | none=>exact hy
  | some d=>
   have hn:=h3 d hd
   refine hy.imp (fun⟨y1,y2⟩=>⟨(wH hn).2 y1,fun e he F hS h' hE=>?_⟩) (fun⟨y1,y2⟩=>⟨(wH hn).2 y1,y2⟩)
   have hc:Cons ε (fun y=>match y with | .tmp t=>bif Nat.beq t d then(ε t).getD (e (.tmp t))else e (.tmp t) | y=>e y):=by
    intro y w hw
    cases y with
    | tmp t=>
     simp only[UK]at hw
     cases hb:Nat.beq t d with
     | true=>simp[hb,hw]
     | false=>simpa[hb]using he (.tmp t) w (by simpa[UK,upd,hb]using hw)
    | const c=>exact he _ _ hw
    | global g=>exact he _ _ hw
    | func f=>exact he _ _ hw
   have:=y2 _ hc F hS h' hE
   have e1:execOp (fun y=>match y with | .tmp t=>bif Nat.beq t d then(ε t).getD (e (.tmp t))else e (.tmp t) | y=>e y) oi=execOp e oi:=
    execOp_congr oi hsi fun y hy'=>by
     cases y with
     | tmp t=>
      have hne:t≠d:=fun e=>hn (by subst e;exact List.mem_append_left _ (List.mem_filterMap.2 ⟨.tmp t,by simpa using hy',rfl⟩))
      have:Nat.beq t d=false:=by cases hb:Nat.beq t d with | false=>rfl | true=>exact absurd (Nat.eq_of_beq_eq_true hb) hne
      simp[this]
     | _=>rfl
   rwa[e1]at this
 refine⟨oj,hj,a1,a2,?_⟩
 cases hdi:oi.dst with
 | none=>
  rw[hdi]at a3
  rcases a3 with⟨b1,b2⟩ | ⟨b1,b2⟩
  ·exact .inl ⟨b1,fun e he=>(b2 e he).mono fun u F k=>⟨keep ε hy u,k⟩⟩
  ·exact .inr ⟨b1,keep ε hy _,b2⟩
 | some d=>
  rw[hdi]at a3
  have hn:=h1 d hdi
  have comm:∀u,upd (upd ε (some d) v) oj.dst u=upd (upd ε oj.dst u) (some d) v:=by
   intro u
   cases hdj:oj.dst with
   | none=>rfl
   | some d'=>exact Wl fun e=>h2 d hdi (by rw[hdj,e])
  rcases a3 with⟨b1,b2⟩ | ⟨b1,b2⟩
  ·refine .inl ⟨(wH hn).1 b1,fun e he=>?_⟩
   have:=b2 _ he.drop
   unfold Dx at this
   rw[OJ hsj hn]at this
   exact Dx.mono this fun u F k=>⟨keep ε hy u,by rw[←comm];exact k⟩
  ·exact .inr ⟨(wH hn).1 b1,keep ε hy _,by rw[←comm];exact b2⟩

theorem Gu.QO{x:Cx}{ops:Array Oper}{S:eG→Prop}{i:Nat}{o:Oper}{v:Value}{ε:Ev}{F:eG}{K:Ev→eG→Prop}(hi:ops[i]? =some o)(hd:d_ o.dst x.n=true)(hdf:∀c,o.op≠ .defer c)(hy:Gu x ops S o v ε)(hS:S F)(H:K (upd ε o.dst v) F):
  QO x ops i K ε F:=by
 refine⟨o,hi,hd,hdf,?_⟩
 rcases hy with⟨a,b⟩ | ⟨a,rfl⟩
 ·exact .inl ⟨a,fun e he=>⟨F,[],by simp,fun h' e1 _=>lM (b e he F hS h' e1) fun nx F' ⟨e1,e2⟩=>by subst e1 e2;simpa[ni]using H⟩⟩
 ·exact .inr ⟨a,H⟩

def xR(ops:Array Oper)(listed i:Nat):Bool:=
 MQ ops listed&&match ops[i]? with
 | none=>false
 | some oi=>(List.range ops.size).all fun j=>Nat.beq j i|| listed.testBit j|| (match ops[j]? with | some oj=>(oj.after.any fun e=>iG e&&Nat.beq e.on i)|| oi.apart ops oj | none=>true)

theorem QU{ops:Array Oper}{listed i:Nat}{oi:Oper}(hi:ops[i]? =some oi)(h:xR ops listed i=true):∀j oj,ops[j]? =some oj→j≠i→listed.testBit j=false→(∀e∈oj.after,iG e=true→e.on≠i)→oi.apart ops oj=true:=by
 intro j oj hj hji hl he
 simp only[xR,Bool.and_eq_true,hi,List.all_eq_true,List.mem_range]at h
 replace h:=h.2
 have hlt:j<ops.size:=by
  rcases Nat.lt_or_ge j ops.size with h' | h'
  ·exact h'
  ·rw[Array.getElem?_eq_none h']at hj;cases hj
 have:=h j hlt
 have hb:Nat.beq j i=false:=by cases hb:Nat.beq j i with | false=>rfl | true=>exact absurd (Nat.eq_of_beq_eq_true hb) hji
 simp only[hb,hl,hj,Bool.false_or,Bool.or_eq_true,Array.any_eq_true,Bool.and_eq_true]at this
 rcases this with⟨k,hk,h1,h2⟩ | h2
 ·exact absurd (Nat.eq_of_beq_eq_true h2) (he _ (Array.getElem_mem hk) h1)
 ·exact h2

theorem MS{ops:Array Oper}{listed:Nat}(h:MQ ops listed=true):Closed ops listed:=by
 intro k o hk hl e he hb
 have hlt:k<ops.size:=by
  rcases Nat.lt_or_ge k ops.size with h' | h'
  ·exact h'
  ·rw[Array.getElem?_eq_none h']at hk;cases hk
 simp only[MQ,List.all_eq_true,List.mem_range]at h
 have:=h k hlt
 simp only[hl,Bool.not_true,Bool.false_or,hk,Array.all_eq_true_iff_forall_mem]at this
 have:=this e he
 simpa[hb]using this
theorem MW{ops:Array Oper}{listed i:Nat}(h:xR ops listed i=true):Closed ops listed:=by
 simp only[xR,Bool.and_eq_true]at h
 exact MS h.1
theorem IE{ops:Array Oper}{listed j:Nat}(h:Fq ops listed j=true):∃oj,ops[j]? =some oj∧listed.testBit j=false∧∀e∈oj.after,iG e=true→listed.testBit e.on=true:=by
 unfold Fq at h
 split at h
 ·rename_i o ho
  simp only[Bool.and_eq_true,Bool.not_eq_true',Array.all_eq_true_iff_forall_mem,Bool.or_eq_true]at h
  exact⟨o,ho,h.1,fun e he hb=>(h.2 e he).resolve_left (by rw[hb];simp)⟩
 ·cases h

theorem aCw{ops:Array Oper}{listed:Nat}(hc:Closed ops listed):∀{n i j:Nat},listed.testBit i=true→aFO ops n i j=true→listed.testBit j=true
 | 0,i,j,hi,h=>by rw[Nat.eq_of_beq_eq_true h];exact hi
 | n+1,i,j,hi,h=>by
  simp only[aFO,Bool.or_eq_true]at h
  rcases h with h | h
  ·rw[Nat.eq_of_beq_eq_true h];exact hi
  ·cases ho:ops[i]? with
   | none=>rw[ho]at h;cases h
   | some o=>
    rw[ho]at h
    simp only[Array.any_eq_true,Bool.and_eq_true]at h
    obtain⟨k,hk,h2,h3⟩:=h
    exact aCw hc (n:=n) (hc _ o ho hi _ (Array.getElem_mem hk) h2) h3
theorem QV{ops:Array Oper}{listed i j:Nat}(hc:Closed ops listed)(hl:lastT ops j=true)(hj:Fq ops listed j=true)(hi:Fq ops listed i=true):i=j:=by
 have hlt:=QT hi
 obtain⟨oi,hoi,Ze,_⟩:=IE hi
 obtain⟨oj,hoj,_,hja⟩:=IE hj
 unfold lastT at hl
 simp only[hoj,List.all_eq_true,List.mem_range,Bool.or_eq_true]at hl
 rcases hl i hlt with(h1 | h1) | h1
 ·exact Nat.eq_of_beq_eq_true h1
 ·simp only[Array.any_eq_true,Bool.and_eq_true]at h1
  obtain⟨k,hk,h2,h3⟩:=h1
  have h4:=hja _ (Array.getElem_mem hk) h2
  rw[Nat.eq_of_beq_eq_true h3,Ze]at h4
  cases h4
 ·simp only[Array.any_eq_true,Bool.and_eq_true]at h1
  obtain⟨k,hk,h2,h3⟩:=h1
  have h4:=aCw hc (hja _ (Array.getElem_mem hk) h2) h3
  rw[Ze]at h4;cases h4
theorem Closed.step{ops:Array Oper}{listed j:Nat}(hc:Closed ops listed)(hj:Fq ops listed j=true):Closed ops (listed||| 2 ^ j):=by
 intro k o hk hl e he hb
 rw[testBit_or]at hl⊢
 rw[Bool.or_eq_true]at hl⊢
 left
 rcases hl with hl | hl
 ·exact hc k o hk hl e he hb
 ·have:j=k:=by simpa using hl
  subst this
  obtain⟨oj,hoj,_,hja⟩:=IE hj
  rw[hk]at hoj
  cases hoj
  exact hja e he hb

theorem QW{x:Cx}{ops:Array Oper}{S:eG→Prop}{K:Ev→eG→Prop}{i:Nat}{oi:Oper}{v:Value}(hi:ops[i]? =some oi)(hsel:∀(j:Nat) (o:Oper) cs b,ops[j]? =some o→o.op≠ .select cs b)
  (hd:d_ oi.dst x.n=true) (hdf:∀c,oi.op≠ .defer c):
  ∀(fuel listed:Nat) (ε:Ev) (F:eG),Closed ops listed→
   (∀j oj,ops[j]? =some oj→j≠i→listed.testBit j=false→(∀e∈oj.after,iG e=true→e.on≠i)→oi.apart ops oj=true)→
   Fq ops listed i=true→Gu x ops S oi v ε→S F→
   DI x ops S K fuel (listed||| 2 ^ i) (upd ε oi.dst v) F→DI x ops S K (fuel+1) listed ε F:=by
 intro fuel
 induction fuel with
 | zero=>
  intro listed ε F hcl _ hr hy hS H
  refine⟨fun h=>absurd (o8.2 hr) (by rw[h];simp),fun j hj=>?_⟩
  by_cases hji:j=i
  ·subst hji;exact hy.QO hi hd hdf hS ⟨.inr hS,H⟩
  ·have:=o8.2 (IC hj (Ne.symm hji))
   rw[H.1]at this
   cases this
 | succ fuel ih=>
  intro listed ε F hcl hfree hr hy hS H
  refine⟨fun h=>absurd (o8.2 hr) (by rw[h];simp),fun j hj=>?_⟩
  by_cases hji:j=i
  ·subst hji;exact hy.QO hi hd hdf hS ⟨.inr hS,H⟩
  ·have h1:=H.2 j (IC hj (Ne.symm hji))
   obtain⟨oj,hoj,hjun,hall⟩:=IE hj
   obtain⟨oi',hoi',Ze,_⟩:=IE hr
   have hnot:∀e∈oj.after,iG e=true→e.on≠i:=fun e he hb heq=>by
    have h1:=hall e he hb
    rw[heq,Ze]at h1
    cases h1
   have h2:=Zd hoj (hfree j oj hoj hji hjun hnot) (fun cs b=>hsel i oi cs b hi) (fun cs b=>hsel j oj cs b hoj) hy h1
   have hfree':∀k ok,ops[k]? =some ok→k≠i→(listed||| 2 ^ j).testBit k=false→(∀e∈ok.after,iG e=true→e.on≠i)→oi.apart ops ok=true:=fun k ok hk hki hun hno=>by
    rw[testBit_or,Bool.or_eq_false_iff]at hun
    exact hfree k ok hk hki hun.1 hno
   refine Wj h2 fun ε' F' ⟨h3,h4,h5⟩=>?_
   have hS':S F':=h4.resolve_left fun hl=>hji (QV hcl hl hj hr).symm
   refine⟨.inr hS',ih _ _ _ (hcl.step hj) hfree' (IC hr hji) h3 hS' ?_⟩
   have e:listed||| 2 ^ j||| 2 ^ i=listed||| 2 ^ i||| 2 ^ j:=by rw[Nat.or_assoc,Nat.or_comm (2 ^ j),←Nat.or_assoc]
   rw[e]
   exact h5

/-! ### From the orders to the machine -/
def DJ(ops:Array Oper):Bool:=ops.all fun o=>match o.op with | .select .. =>false | _=>true

theorem QX{ops:Array Oper}(h:DJ ops=true):∀(j:Nat) (o:Oper) cs b,ops[j]? =some o→o.op≠ .select cs b:=by
 intro j o cs b ho he
 have:=Array.all_eq_true_iff_forall_mem.1 h o (Array.mem_of_getElem? ho)
 simp[he]at this

def bitsOf(l:Array Bool)(n:Nat):Prop:=∀i,n.testBit i=l.getD i false

theorem Zf{ops:Array Oper}{l:Array Bool}{n:Nat}(hl:l.size=ops.size)(h:bitsOf l n):Region.ready .any ops l=qx ops n:=by
 unfold Region.ready qx
 apply List.filter_congr
 intro i hi
 have hlt:i<ops.size:=List.mem_range.1 hi
 have e1:l.getD i true=n.testBit i:=by rw[h i];simp[Array.getD,hl,hlt]
 unfold Fq
 rw[Array.getElem?_eq_getElem hlt]
 simp only[Option.map_some,Option.getD_some,e1]
 congr 1
 congr 1
 funext e
 simp only[iG,h e.on]

theorem QY{x:Cx}{ops:Array Oper}{S:eG→Prop}{K:Ev→eG→Prop}{Q:Post}{ds:List Deferred}
  (hK:∀(ε:Ev) F,K ε F→∃ρ F',(∀t v,look ρ t=some v→ε t=some v)∧Sb F' F∧Q .normal ρ ds F'):
  ∀(fuel t n:Nat) (l:Array Bool) (ρ:Env) (F:eG),l.size=ops.size→bitsOf l n→DI x ops S K fuel n (look ρ) F→Ops x ops (Region.linearise.go .any ops fuel t l []) Q ρ ds F:=by
 have fin:∀(ρ:Env) (F:eG),K (look ρ) F→Ops x ops [] Q ρ ds F:=fun ρ F k=>by
  obtain⟨ρ',F',h1,hp,h2⟩:=hK _ _ k
  intro b k cs Stop tmps hk M a1 a0 a2 a3 a4 a5 hc
  exact .idle rfl (fun _=>uq) (hc .normal ρ' ds F' tmps hk M h2 (fun t v h=>a3 t v (h1 t v h)) a4 (a5.sb hp) (.sub (fun _ y=>hp.mem _ y) .refl))
 intro fuel
 induction fuel with
 | zero=>intro t n l ρ F hl hb H;simpa[Region.linearise.go]using fin ρ F H.2
 | succ fuel ih=>
  intro t n l ρ F hl hb H
  simp only[Region.linearise.go]
  change Ops x ops (match(Region.ready .any ops l)[t % (Region.ready .any ops l).length]? with
   | some i=>Region.linearise.go .any ops fuel (t / (Region.ready .any ops l).length) (l.setIfInBounds i true) [i]
   | none=>[].reverse) Q ρ ds F
  rw[Zf hl hb]
  cases hi:(qx ops n)[t % (qx ops n).length]? with
  | none=>
   have hnil:qx ops n=[]:=by
    cases hr:qx ops n with
    | nil=>rfl
    | cons y ys=>
     rw[hr]at hi
     have hlt:t % (y::ys).length<(y::ys).length:=Nat.mod_lt _ (by simp)
     simp at hi
     simp at hlt
     omega
   exact fin ρ F (H.1 hnil)
  | some i=>
   simp only[]
   rw[linearise_go_acc,List.reverse_singleton,List.singleton_append]
   have hr:=o8.1 (List.mem_of_getElem? hi)
   have hlt:=QT hr
   obtain⟨o,h1,h2,h3,h4⟩:=H.2 i hr
   have hb':bitsOf (l.setIfInBounds i true) (n||| 2 ^ i):=by
    intro j
    rw[testBit_or,hb j]
    by_cases hij:i=j
    ·subst hij;simp[Array.getD,hl,hlt]
    ·simp[Array.getD_eq_getD_getElem?,Array.getElem?_setIfInBounds_ne hij,hij]
   have go:∀v F',DI x ops S K fuel (n||| 2 ^ i) (upd (look ρ) o.dst v) F'→Ops x ops (Region.linearise.go .any ops fuel (t / (qx ops n).length) (l.setIfInBounds i true) []) Q (put ρ o.dst v) ds F':=fun v F' h=>by
    rw[Dz]at h
    exact ih _ _ _ _ _ (by simpa using hl) hb' h
   rcases h4 with⟨h4,h5⟩ | ⟨h4,h5⟩
   ·refine Ops.op h1 ?_ h2 h3 fun e he=>(h5 e fun y v hy=>he y v (by rwa[DC]at hy)).mono fun v F' h=>go v F' h.2
    unfold want
    unfold dR at h4
    split at h4
    ·rename_i hg;simp[hg]
    ·rename_i j g hg
     obtain⟨d,v,b1,b2,b3⟩:=h4
     try simp only[hg]
     rcases b3 with⟨b,rfl,b3⟩ | ⟨_,b3⟩
     ·exact⟨d,b1,by rw[b2];simpa using b3⟩
     ·cases b3
   ·unfold dR at h4
    split at h4
    ·cases h4
    ·rename_i j g hg
     obtain⟨d,v,b1,b2,b3⟩:=h4
     rcases b3 with⟨b,rfl,b3⟩ | ⟨rfl,_⟩
     ·exact Ops.unwanted h1 hg b1 b2 b3 h2 (go _ _ h5.2)
     ·exact Ops.aev h1 hg b1 b2 h2 (go _ _ h5.2)

theorem Dx.perm{x:Cx}{o:Oper}{e:Operand→Value}{F F':eG}{R:Value→eG→Prop}(p:F'.Perm F)(H:Dx x o e F' R):Dx x o e F R:=by
 obtain⟨A,B,h1,h2⟩:=H
 exact⟨A,B,h1.trans p,h2⟩

theorem UL{x:Cx}{ops:Array Oper}{S:eG→Prop}{K:Ev→eG→Prop}(hS:∀F F',F'.Perm F→S F'→S F)(hK:∀ε F F',F'.Perm F→K ε F'→K ε F):∀(fuel n:Nat) (ε:Ev) (F F':eG),F'.Perm F→DI x ops S K fuel n ε F'→DI x ops S K fuel n ε F:=by
 intro fuel
 induction fuel with
 | zero=>exact fun n ε F F' p H=>⟨H.1,hK _ _ _ p H.2⟩
 | succ fuel ih=>
  intro n ε F F' p H
  refine⟨fun h=>hK _ _ _ p (H.1 h),fun i hi=>?_⟩
  obtain⟨o,h1,h2,h3,h4⟩:=H.2 i hi
  exact⟨o,h1,h2,h3,h4.imp (fun⟨a,b⟩=>⟨a,fun e he=>(b e he).perm p⟩) (fun⟨a,b,c⟩=>⟨a,b.imp id (hS _ _ p),ih _ _ _ _ p c⟩)⟩

def Keeps(L:eG)(F:eG):Prop:=∀p∈L,p∈F

def fin(Q:Post)(ds:List Deferred)(ε:Ev)(F:eG):Prop:=∃ρ F',(∀t v,look ρ t=some v→ε t=some v)∧Sb F' F∧Q .normal ρ ds F'

def Any(x:Cx)(ops:Array Oper)(L:eG)(fuel listed:Nat)(Q:Post)(ρ:Env)(ds:List Deferred)(F:eG):Prop:=
 DI x ops (Keeps L) (fin Q ds) fuel listed (look ρ) F

section rules
variable{x:Cx}{Q:Post}{ρ:Env}{ds:List Deferred}{F:eG}{ops:Array Oper}{L:eG}{fuel listed:Nat}
theorem IG{P:Program}{main:Bool}{b:Frame}{t:Array Value}{k:List Item}{cs:List Frame}{w:World}{id:Nat}(hm:P.follows .mixedOrders=true):
  stepG P main (G (bW b t ds (.code (.region id ops true)::k)) cs) w= .go (G (bW b t ds (.inRegion ops (Region.linearise.go .any ops ops.size (w.tape w.drawn (.order b.fn id)) (Array.replicate ops.size false) [])::k)) cs) {w with drawn:=w.drawn+1} #[]:=by
 simp[Conc.G,stepG,stepG.exec,bW,choose,Sem.run,Question.forced,Question.cut,Region.schedule,hm,Region.linearise]

theorem W.draw{id:Nat}(hm:x.P.follows .mixedOrders=true)(L:eG)(H:Any x ops L ops.size 0 Q ρ ds F):W x (.region id ops true) Q ρ ds F:=by
 intro b k cs Stop tmps hk M h1 h0 h2 h3 h4 h5 hc
 refine .oN ⟨rfl,fun w hw hM=>⟨_,_,_,IG hm,dX.heap rfl rfl rfl rfl,?_⟩⟩
 have e1:snap hk w {w with drawn:=w.drawn+1}=hk:=AB hw
 have e2:grown M w {w with drawn:=w.drawn+1}=M:=qY
 rw[e1,e2]
 exact QY (fun _ _ h=>h) ops.size _ 0 _ ρ F (by simp) (fun i=>by simp[Array.getD]) H b k cs Stop tmps hk M h1 h0 h2 h3 h4 h5 hc

theorem Keeps.perm{L F F':eG}(p:F'.Perm F)(h:Keeps L F'):Keeps L F:=fun q hq=>p.subset (h q hq)

theorem Any.perm{F':eG}(p:F'.Perm F)(H:Any x ops L fuel listed Q ρ ds F'):Any x ops L fuel listed Q ρ ds F:=
 UL (fun _ _ p=>Keeps.perm p) (fun _ _ _ p ⟨ρ,F',h1,h2,h3⟩=>⟨ρ,F',h1,h2.trans (.dF p),h3⟩) _ _ _ _ _ p H

theorem UM{x:Cx}{ops:Array Oper}{S:eG→Prop}{K:Ev→eG→Prop}(hS:∀F F',Sb F' F→S F'→S F)(hK:∀ε F F',Sb F' F→K ε F'→K ε F):∀(fuel n:Nat) (ε:Ev) (F F':eG),Sb F' F→DI x ops S K fuel n ε F'→DI x ops S K fuel n ε F:=by
 intro fuel
 induction fuel with
 | zero=>exact fun n ε F F' p H=>⟨H.1,hK _ _ _ p H.2⟩
 | succ fuel ih=>
  intro n ε F F' p H
  refine⟨fun h=>hK _ _ _ p (H.1 h),fun i hi=>?_⟩
  obtain⟨o,h1,h2,h3,h4⟩:=H.2 i hi
  refine⟨o,h1,h2,h3,h4.imp (fun⟨a,b⟩=>⟨a,fun e he=>?_⟩) (fun⟨a,b,c⟩=>⟨a,b.imp id (hS _ _ p),ih _ _ _ _ p c⟩)⟩
  obtain⟨A,B,q1,q2⟩:=b e he
  obtain⟨C,p1,p2⟩:=p
  refine⟨A,B++C,?_,fun h' e1 e2=>lM (q2 h' e1 fun b o hb=>e2 b o (List.mem_append_left _ hb)) fun _ _ y=>y.mono fun v A' r=>?_⟩
  ·rw[←List.append_assoc];exact(q1.append_right C).trans p1
  ·have hsb:Sb (A'++B) (A'++(B++C)):=by rw[←List.append_assoc];exact⟨C,.refl _,p2⟩
   exact⟨r.1.imp id (hS _ _ hsb),ih _ _ _ _ hsb r.2⟩
theorem Any.sb{F':eG}(p:Sb F' F)(H:Any x ops L fuel listed Q ρ ds F'):Any x ops L fuel listed Q ρ ds F:=
 UM (fun _ _ p h q hq=>p.mem _ (h q hq)) (fun _ _ _ p ⟨ρ,F',h1,h2,h3⟩=>⟨ρ,F',h1,h2.trans p,h3⟩) _ _ _ _ _ p H


theorem Any.done(hr:qx ops listed=[])(H:Q .normal ρ ds F):Any x ops L fuel listed Q ρ ds F:=by
 have k:fin Q ds (look ρ) F:=⟨ρ,F,fun _ _ h=>h,.refl,H⟩
 cases fuel with
 | zero=>exact⟨hr,k⟩
 | succ n=>exact⟨fun _=>k,fun i hi=>absurd (o8.2 hi) (by rw[hr];simp)⟩

theorem Any.take{i:Nat}{o:Oper}{v:Value}(hi:ops[i]? =some o)(hs:DJ ops=true)(hf:xR ops listed i=true)(hr:Fq ops listed i=true)(hd:d_ o.dst x.n=true)(hdf:∀c,o.op≠ .defer c)(hS:Keeps L F)
  (hy:Gu x ops (Keeps L) o v (look ρ)) (H:Any x ops L fuel (listed||| 2 ^ i) Q (put ρ o.dst v) ds F):Any x ops L (fuel+1) listed Q ρ ds F:=by
 unfold Any at H⊢
 rw[←Dz]at H
 exact QW hi (QX hs) hd hdf fuel listed _ F (MW hf) (QU hi hf) hr hy hS H

theorem Any.one{i:Nat}{o:Oper}(hr:qx ops listed=[i])(hi:ops[i]? =some o)(hw:dR ops (look ρ) o true)(hd:d_ o.dst x.n=true)(hdf:∀c,o.op≠ .defer c)
  (H:∀e:Operand→Value,(∀y v,ev ρ y=some v→e y=v)→Dx x o e F fun v F'=>(lastT ops i=true∨Keeps L F')∧Any x ops L fuel (listed||| 2 ^ i) Q (put ρ o.dst v) ds F'):Any x ops L (fuel+1) listed Q ρ ds F:=by
 refine⟨(fun h=>by rw[h]at hr;cases hr),fun j hj=>?_⟩
 have:=o8.2 hj
 rw[hr]at this
 obtain rfl:j=i:=by simpa using this
 refine⟨o,hi,hd,hdf,.inl ⟨hw,fun e he=>?_⟩⟩
 refine(H e fun y v hy=>he y v (by rwa[DC])).mono fun v F' h=>⟨h.1,?_⟩
 rw[Dz]
 exact h.2

theorem Any.two{i j:Nat}(hr:qx ops listed=[i,j])(Hi:QO x ops i (fun ε' F'=>(lastT ops i=true∨Keeps L F')∧DI x ops (Keeps L) (fin Q ds) fuel (listed||| 2 ^ i) ε' F') (look ρ) F)
  (Hj:QO x ops j (fun ε' F'=>(lastT ops j=true∨Keeps L F')∧DI x ops (Keeps L) (fin Q ds) fuel (listed||| 2 ^ j) ε' F') (look ρ) F):Any x ops L (fuel+1) listed Q ρ ds F:=by
 refine⟨(fun h=>by rw[h]at hr;cases hr),fun k hk=>?_⟩
 have:=o8.2 hk
 rw[hr]at this
 rcases(by simpa using this:k=i∨k=j)with rfl | rfl
 ·exact Hi
 ·exact Hj

theorem QO.op{i:Nat}{o:Oper}(hi:ops[i]? =some o)(hw:dR ops (look ρ) o true)(hd:d_ o.dst x.n=true)(hdf:∀c,o.op≠ .defer c)
  (H:∀e:Operand→Value,(∀y v,ev ρ y=some v→e y=v)→Dx x o e F fun v F'=>(lastT ops i=true∨Keeps L F')∧Any x ops L fuel (listed||| 2 ^ i) Q (put ρ o.dst v) ds F'):
  QO x ops i (fun ε' F'=>(lastT ops i=true∨Keeps L F')∧DI x ops (Keeps L) (fin Q ds) fuel (listed||| 2 ^ i) ε' F') (look ρ) F:=by
 refine⟨o,hi,hd,hdf,.inl ⟨hw,fun e he=>?_⟩⟩
 refine(H e fun y v hy=>he y v (by rwa[DC])).mono fun v F' h=>⟨h.1,?_⟩
 rw[Dz]
 exact h.2
end rules
end Go.aS

/- Laws of the single operations that own nothing new. Conditions: none; over any program. -/
namespace Go.aS
class TD(P:Program)(t:TypeId)(d:outParam TypeDesc):Prop where
  out:P.underlying t=some d
class TI(P:Program)(t:TypeId)(size bytes:outParam Nat)(zero:outParam Value)(zc:outParam (Array Value)):Prop where
  eq:(P.info? t).map (fun i=>(i.size,i.bytes,i.zero))=some (size,bytes,some zero)
  cells:zero.cells=zc
theorem TI.out{P:Program}{t s b:Nat}{z:Value}{zc:Array Value}(i:TI P t s b z zc):∃j,P.info? t=some j∧j.size=s∧j.bytes=b∧j.zero=some z∧z.cells=zc:=by
  obtain⟨j,h1,h2⟩:=Option.map_eq_some_iff.1 i.eq
  simp only[Prod.mk.injEq]at h2
  exact⟨j,h1,h2.1,h2.2.1,h2.2.2,i.cells⟩
def Tf:TypeDesc→Bool
  | .struct _ | .array _ _=>true
  | _=>false
class SC(P:Program)(t:TypeId):Prop where
  eq:(P.underlying t).map Tf=some false
theorem SC.out{P:Program}{t:TypeId}(i:SC P t):∃d,P.underlying t=some d∧(∀fs,d≠ .struct fs)∧(∀n e,d≠ .array n e):=by
  obtain⟨d,h1,h2⟩:=Option.map_eq_some_iff.1 i.eq
  exact⟨d,h1,(fun fs e=>by subst e;cases h2),(fun n e e'=>by subst e';cases h2)⟩
class AG(P:Program)(t:TypeId)(n:outParam Nat):Prop where
  eq:(P.underlying t).map Tf=some true
  size:(P.info? t).map (·.size)=some n
theorem AG.out{P:Program}{t n:Nat}(i:AG P t n):∃d j,P.underlying t=some d∧((∃fs,d= .struct fs)∨∃m e,d= .array m e)∧P.info? t=some j∧j.size=n:=by
  obtain⟨d,h1,h2⟩:=Option.map_eq_some_iff.1 i.eq
  obtain⟨j,h3,h4⟩:=Option.map_eq_some_iff.1 i.size
  refine⟨d,j,h1,?_,h3,h4⟩
  cases d <;>first | exact .inl ⟨_,rfl⟩ | exact .inr ⟨_,_,rfl⟩ | cases h2
def Zg(P:Program)(f:Nat):TypeDesc→Option (Nat×TypeId×Option Nat)
  | .struct fs=>(fs[f]?).map fun fl=>(fl.offset,fl.type,(P.info? fl.type).map (·.size))
  | _=>none
class FA(P:Program)(s f:Nat)(off:outParam Nat)(ft:outParam TypeId):Prop where
  eq:∃n,(P.underlying s).bind (Zg P f)=some (off,ft,some (n+1))
theorem FA.out{P:Program}{s f off ft:Nat}(i:FA P s f off ft):∃fs fl j,P.underlying s=some (.struct fs)∧fs[f]? =some fl∧fl.offset=off∧fl.type=ft∧P.info? ft=some j∧j.size≠0:=by
  obtain⟨n,h⟩:=i.eq
  obtain⟨d,h1,h2⟩:=Option.bind_eq_some_iff.1 h
  cases d with
  | struct fs=>
    obtain⟨fl,h3,h4⟩:=Option.map_eq_some_iff.1 h2
    simp only[Prod.mk.injEq]at h4
    obtain⟨j,h5,h6⟩:=Option.map_eq_some_iff.1 h4.2.2
    exact⟨fs,fl,j,h1,h3,h4.1,h4.2.1,h4.2.1▸h5,by omega⟩
  | _=>cases h2
class FB(P:Program)(f:FuncId):Prop where
  eq:(P.funcs[f]?).map (fun fn=>(fn.name== "runtime.NumGoroutine",fn.body.isNone))=some (false,false)
theorem FB.out{P:Program}{f:FuncId}(i:FB P f):∃fn,P.funcs[f]? =some fn∧(fn.name== "runtime.NumGoroutine")=false∧fn.body.isNone=false:=by
  obtain⟨fn,h1,h2⟩:=Option.map_eq_some_iff.1 i.eq
  simp only[Prod.mk.injEq]at h2
  exact⟨fn,h1,h2.1,h2.2⟩

def Gv(h:Hp)(S:eG→Prop)(b:Nat)(o:Obj):Prop:=h b=some o∨∀F,S F→(b,o)∈F
theorem Gv.look{h h':Hp}{S:eG→Prop}{b:Nat}{o:Obj}(H:Gv h S b o){F:eG}(hS:S F)(hE:Ext h h'):Look h' F b o:=H.imp (hE.1 b o) fun x=>x F hS

def Yv(x:Cx)(S:eG→Prop)(ρ:Env)(o:Oper)(v:Value):Prop:=
  ∀e:Operand→Value,(∀y v,ev ρ y=some v→e y=v)→∀F,S F→∀h',Ext x.h h'→tr x.P h' (execOp e o) F fun nx F'=>nx= .value v∧F'=F

def QS(o:Op):Bool:=match o with | .defer _=>false | _=>true
theorem gI{o:Op}(h:QS o=true):∀c,o≠ .defer c:=by rintro c rfl;cases h

section rules
variable{x:Cx}{Q:Post}{ρ:Env}{ds:List Deferred}{F:eG}{ops:Array Oper}{S:eG→Prop}{i:Nat}{rest:List Nat}{o:Oper}{v:Value}
theorem Ops.quiet(H:Ops x ops rest Q (put ρ o.dst v) ds F)(ho:ops[i]? =some o)(hw:want ops ρ o)(hd:d_ o.dst x.n=true)(hn:QS o.op=true)(hy:Yv x (· =F) ρ o v):Ops x ops (i::rest) Q ρ ds F:=
  Ops.op ho hw hd (gI hn) fun e he=>⟨F,[],by simp,fun h' hE _=>lM (hy e he F rfl h' hE) fun nx F' ⟨e1,e2⟩=>by subst e1 e2;simpa[ni]using H⟩

theorem Any.quiet{fuel listed:Nat}{L:eG}(H:Any x ops L fuel (listed||| 2 ^ i) Q (put ρ o.dst v) ds F)(hr:Fq ops listed i=true)(hf:xR ops listed i=true)(hi:ops[i]? =some o)(hs:DJ ops=true)(hw:dR ops (look ρ) o true)
    (hd:d_ o.dst x.n=true) (hn:QS o.op=true) (hS:Keeps L F) (hy:Yv x (Keeps L) ρ o v):Any x ops L (fuel+1) listed Q ρ ds F:=
  Any.take hi hs hf hr hd (gI hn) hS (.inl ⟨hw,fun e he F hF h' hE=>hy e (fun y v hv=>he y v (by rwa[DC])) F hF h' hE⟩) H

theorem Any.pass{fuel listed:Nat}{L:eG}(H:Any x ops L fuel (listed||| 2 ^ i) Q (put ρ o.dst undef) ds F)(hr:Fq ops listed i=true)(hf:xR ops listed i=true)(hi:ops[i]? =some o)(hs:DJ ops=true)(hw:dR ops (look ρ) o false)
    (hd:d_ o.dst x.n=true) (hn:QS o.op=true) (hS:Keeps L F):Any x ops L (fuel+1) listed Q ρ ds F:=
  Any.take hi hs hf hr hd (gI hn) hS (.inr ⟨hw,rfl⟩) H

/-! ### Values -/
theorem aN{y:Operand}(ho:o.op= .move y)(hy:ev ρ y=some v):Yv x S ρ o v:=fun e he F _ h' hE=>by
  simp only[execOp,ho,he y v hy];exact⟨rfl,rfl⟩
theorem jS{y:Operand}(ho:o.op= .assign y)(hy:ev ρ y=some v):Yv x S ρ o v:=fun e he F _ h' hE=>by
  simp only[execOp,ho,he y v hy];exact⟨rfl,rfl⟩
theorem dG{c a b:Operand}(ho:o.op= .pick c a b)(hc:ev ρ c=some (.bool true))(hy:ev ρ a=some v):Yv x S ρ o v:=fun e he F _ h' hE=>by
  simp only[execOp,ho,he c _ hc,he a v hy];exact⟨rfl,rfl⟩
theorem iH{c a b:Operand}(ho:o.op= .pick c a b)(hc:ev ρ c=some (.bool false))(hy:ev ρ b=some v):Yv x S ρ o v:=fun e he F _ h' hE=>by
  simp only[execOp,ho,he c _ hc,he b v hy];exact⟨rfl,rfl⟩

theorem bg{y:Operand}{a:Addr}(ho:o.op= .nilCheck y)(hy:ev ρ y=some (.pointer (some a))):Yv x S ρ o (.pointer (some a)):=fun e he F _ h' hE=>by
  simp only[execOp,ho,he y _ hy];exact⟨rfl,rfl⟩
theorem aT{y:Operand}{f:FuncId}{a b:Array Value}(ho:o.op= .nilCheck y)(hy:ev ρ y=some (.func (.func f) a b)):Yv x S ρ o (.func (.func f) a b):=fun e he F _ h' hE=>by
  simp only[execOp,ho,he y _ hy];exact⟨rfl,rfl⟩

/-! #### memory -/
theorem bind_eq{α β:Type}(s:Sem α)(f:α→Sem β):(s >>=f)=s.bind f:=rfl
theorem gq{α:Type}(a:α):(pure a:Sem α)= .pure a:=rfl
theorem bind_pure{α β:Type}(a:α)(f:α→Sem β):(Sem.pure a).bind f=f a:=rfl
theorem bind_assoc{α β γ:Type}(s:Sem α)(f:α→Sem β)(g:β→Sem γ):(s.bind f).bind g=s.bind fun a=>(f a).bind g:=by
  induction s with
  | pure a=>rfl
  | load m a k ih=>simp only[Sem.bind,ih]
  | store m a v k ih=>simp only[Sem.bind,ih]
  | new o k ih=>simp only[Sem.bind,ih]
  | shape r k ih=>simp only[Sem.bind,ih]
  | freeze a n k ih=>simp only[Sem.bind,ih]
  | frozen a k ih=>simp only[Sem.bind,ih]
  | getObj r k ih=>simp only[Sem.bind,ih]
  | setObj r o k ih=>simp only[Sem.bind,ih]
  | choose q k ih=>simp only[Sem.bind,ih]
  | sys c k ih=>simp only[Sem.bind,ih]
  | program k ih=>simp only[Sem.bind,ih]
  | mark m k ih=>simp only[Sem.bind,ih]
  | halt h=>rfl

section eqs
variable{P:Program}{h:Hp}{β:Type}
theorem l7{f:Program→Sem β}{Q:β→eG→Prop}:tr P h (program.bind f) F Q=tr P h (f P) F Q:=rfl
theorem aC{t:TypeId}{d:TypeDesc}[i:TD P t d]{f:TypeDesc→Sem β}{Q:β→eG→Prop}:tr P h ((underlying t).bind f) F Q=tr P h (f d) F Q:=by
  simp only[underlying,program,bind_eq,gq,Sem.bind,tr,i.out]
theorem dJ{t:TypeId}{j:TypeInfo}(hj:P.info? t=some j){f:TypeInfo→Sem β}{Q:β→eG→Prop}:tr P h ((typeInfo t).bind f) F Q=tr P h (f j) F Q:=by
  simp only[typeInfo,program,bind_eq,gq,Sem.bind,tr,hj]
theorem dH{t s b:Nat}{z:Value}{zc:Array Value}[i:TI P t s b z zc]{f:Nat→Sem β}{Q:β→eG→Prop}:tr P h ((sizeOf t).bind f) F Q=tr P h (f s) F Q:=by
  obtain⟨j,h1,h2,_⟩:=i.out
  simp only[sizeOf,bind_eq,gq,bind_assoc,dJ h1,bind_pure,h2]
theorem fG{t s b:Nat}{z:Value}{zc:Array Value}[i:TI P t s b z zc]{f:Value→Sem β}{Q:β→eG→Prop}:tr P h ((zeroValue t).bind f) F Q=tr P h (f z) F Q:=by
  obtain⟨j,h1,_,_,h2,_⟩:=i.out
  simp only[zeroValue,bind_eq,gq,bind_assoc,dJ h1,bind_pure,h2]
theorem o9{t n:Nat}[i:AG P t n]{f:Nat→Sem β}{Q:β→eG→Prop}:tr P h ((sizeOf t).bind f) F Q=tr P h (f n) F Q:=by
  obtain⟨d,j,_,_,h1,h2⟩:=i.out
  simp only[sizeOf,bind_eq,gq,bind_assoc,dJ h1,bind_pure,h2]
theorem Fv{t n:Nat}[i:AG P t n]{f:Bool→Sem β}{Q:β→eG→Prop}:tr P h ((isAgg t).bind f) F Q=tr P h (f true) F Q:=by
  obtain⟨d,j,h1,h2,_⟩:=i.out
  have:TD P t d:=⟨h1⟩
  simp only[isAgg,bind_eq,gq,bind_assoc,aC]
  rcases h2 with⟨fs,rfl⟩ | ⟨m,e,rfl⟩ <;>rfl
theorem II{t:TypeId}[i:SC P t]{f:Bool→Sem β}{Q:β→eG→Prop}:tr P h ((isAgg t).bind f) F Q=tr P h (f false) F Q:=by
  obtain⟨d,h1,h2,h3⟩:=i.out
  have:TD P t d:=⟨h1⟩
  simp only[isAgg,bind_eq,gq,bind_assoc,aC]
  cases d <;>first | rfl | exact absurd rfl (h2 _) | exact absurd rfl (h3 _ _)
end eqs
theorem jE{a:Addr}(h:a.spot=none)(n:Nat):a.add n=⟨a.block,a.off+n,none⟩:=by
  obtain⟨b,o,s⟩:=a
  simp only at h
  subst h
  unfold Addr.add
  split <;>simp_all

theorem MX{P:Program}{h:Hp}{b off:Nat}{c:Array Value}{E:TypeId}{fz:Nat×Nat}{u:Value}{Q:Value→eG→Prop}(hl:Look h F b (.cells c E fz))(hc:c[off]? =some u)(H:Q u F):tr P h (load ⟨b,off,none⟩) F Q:=
  ⟨rfl,rfl,c,E,fz,u,hl,hc,H⟩

theorem gX{P:Program}{h:Hp}{b off:Nat}{c:Array Value}{E:TypeId}{fz:Nat×Nat}(hl:Look h F b (.cells c E fz)):∀(n i:Nat) (acc:Array Value) {Q:Array Value→eG→Prop},off+i+n≤c.size→Q (acc++c.extract (off+i) (off+i+n)) F→tr P h (loadCellsFrom ⟨b,off,none⟩ i n acc) F Q
  | 0,i,acc,Q,_,H=>by
    have e:c.extract (off+i) (off+i+0)= #[]:=by simp;omega
    rw[e,Array.append_empty]at H
    exact H
  | n+1,i,acc,Q,hn,H=>by
    have hlt:off+i<c.size:=by omega
    simp only[loadCellsFrom,jE,bind_eq]
    refine bJ (MX hl (Array.getElem?_eq_getElem hlt) ?_)
    refine gX hl n (i+1) _ (by omega) ?_
    have e:acc.push c[off+i]++c.extract (off+(i+1)) (off+(i+1)+n)=acc++c.extract (off+i) (off+i+(n+1)):=by
      apply Array.ext
      · simp;omega
      · intro j h1 h2
        simp only[Array.getElem_append,Array.size_push,Array.getElem_extract,Array.getElem_push]
        by_cases ha:j<acc.size
        · have hb:j<acc.size+1:=by omega
          simp only[ha,hb,dif_pos]
        · by_cases hb:j<acc.size+1
          · have:j=acc.size:=by omega
            subst this
            simp
          · simp only[ha,hb,dif_neg,not_false_eq_true]
            congr 1;omega
    rw[e]
    exact H

theorem Wp{t:TypeId}{a:Operand}{b off:Nat}{c:Array Value}{E:TypeId}{fz:Nat×Nat}(ho:o.op= .load t a)[SC x.P t](ha:ev ρ a=some (.pointer (some ⟨b,off,none⟩)))(hl:Gv x.h S b (.cells c E fz))(hc:c[off]? =some v):Yv x S ρ o v:=fun e he F hF h' hE=>by
  simp only[execOp,ho,he a _ ha,Instr.loadAt,Instr.sureAddr,loadVar,bind_eq,gq,bind_assoc,bind_pure,II,Bool.false_eq_true,if_false]
  exact bJ (MX (hl.look hF hE) hc ⟨rfl,rfl⟩)

theorem Ih{t n:Nat}{a:Operand}{b off:Nat}{c vs:Array Value}{E:TypeId}{fz:Nat×Nat}(ho:o.op= .load t a)[AG x.P t n](ha:ev ρ a=some (.pointer (some ⟨b,off,none⟩)))(hl:Gv x.h S b (.cells c E fz))(hn:off+n≤c.size)(hv:c.extract off (off+n)=vs):Yv x S ρ o (.agg vs):=fun e he F hF h' hE=>by
  simp only[execOp,ho,he a _ ha,Instr.loadAt,Instr.sureAddr,loadVar,bind_eq,gq,bind_assoc,bind_pure,Fv,if_true,o9,loadCells]
  refine bJ (gX (hl.look hF hE) n 0 #[] (by omega) ?_)
  simp[tr,hv]

theorem ay{s f off' ft:Nat}{a:Operand}{b off:Nat}(ho:o.op= .fieldAddr s a f)[i:FA x.P s f off' ft](ha:ev ρ a=some (.pointer (some ⟨b,off,none⟩))):Yv x S ρ o (.pointer (some ⟨b,off+off',none⟩)):=fun e he F hF h' hE=>by
  obtain⟨fs,fl,j,h1,h2,h3,h4,h5,h6⟩:=i.out
  have hu:TD x.P s (.struct fs):=⟨h1⟩
  subst h4
  simp only[execOp,ho,he a _ ha,Instr.fieldAt,Instr.sureAddr,fieldPlace,sizeOf,bind_eq,gq,bind_assoc,bind_pure,aC,h2,dJ h5,if_neg h6,jE,h3]
  exact⟨rfl,rfl⟩

theorem aBv{t E s by':Nat}{z:Value}{zc:Array Value}{a ix:Operand}{b off len cap:Nat}{k:IntKind}{n:Int}(ho:o.op= .indexAddr t a ix)[TD x.P t (.slice E)][TI x.P E s by' z zc](ha:ev ρ a=some (.slice (some ⟨b,off,none⟩) len cap))(hi:ev ρ ix=some (.int k n))(h0:0≤n)(h1:n<len):
    Yv x S ρ o (.pointer (some ⟨b,off+n.toNat*s,none⟩)):=fun e he F hF h' hE=>by
  simp only[execOp,ho,he a _ ha,he ix _ hi,Instr.indexAt,asIntOf,bind_eq,gq,bind_assoc,bind_pure,aC,h0,h1,and_self,if_true,dH,jE]
  exact⟨rfl,rfl⟩
theorem DK{t E s by':Nat}{z:Value}{zc:Array Value}{a ix:Operand}{b off len cap:Nat}{k:IntKind}{n:Nat}(ho:o.op= .indexAddr t a ix)[TD x.P t (.slice E)][TI x.P E s by' z zc](ha:ev ρ a=some (.slice (some ⟨b,off,none⟩) len cap))(hi:ev ρ ix=some (.int k (n:Int)))(h1:n<len):
    Yv x S ρ o (.pointer (some ⟨b,off+n*s,none⟩)):=aBv ho ha hi (by omega) (by omega)
theorem DL{t E s by' m:Nat}{z:Value}{zc:Array Value}{a ix:Operand}{b off:Nat}{k:IntKind}{n:Int}(ho:o.op= .indexAddr t a ix)[TD x.P t (.array m E)][TI x.P E s by' z zc](ha:ev ρ a=some (.pointer (some ⟨b,off,none⟩)))(hi:ev ρ ix=some (.int k n))(h0:0≤n)(h1:n<m):
    Yv x S ρ o (.pointer (some ⟨b,off+n.toNat*s,none⟩)):=fun e he F hF h' hE=>by
  simp only[execOp,ho,he a _ ha,he ix _ hi,Instr.indexAt,Instr.sureAddr,asIntOf,bind_eq,gq,bind_assoc,bind_pure,aC,h0,h1,and_self,if_true,dH,jE]
  exact⟨rfl,rfl⟩

theorem BL{t E s by' m:Nat}{z:Value}{zc:Array Value}{a ix:Operand}{b off:Nat}{k:IntKind}{n:Nat}(ho:o.op= .indexAddr t a ix)[TD x.P t (.array m E)][TI x.P E s by' z zc](ha:ev ρ a=some (.pointer (some ⟨b,off,none⟩)))(hi:ev ρ ix=some (.int k (n:Int)))(h1:n<m):
    Yv x S ρ o (.pointer (some ⟨b,off+n*s,none⟩)):=DL ho ha hi (by omega) (by omega)

theorem lT{P:Program}{h:Hp}{t:TypeId}[SC P t]{cs:Array Value}{off:Nat}{u:Value}{β:Type}{f:Value→Sem β}{Q:β→eG→Prop}(hc:cs[off]? =some u):tr P h ((part t cs off).bind f) F Q=tr P h (f u) F Q:=by
  simp only[part,bind_eq,gq,bind_assoc,II,Bool.false_eq_true,if_false,hc,bind_pure]
theorem ru{P:Program}{h:Hp}{t n:Nat}[AG P t n]{cs:Array Value}{off:Nat}{β:Type}{f:Value→Sem β}{Q:β→eG→Prop}:tr P h ((part t cs off).bind f) F Q=tr P h (f (.agg (cs.extract off (off+n)))) F Q:=by
  simp only[part,bind_eq,gq,bind_assoc,Fv,if_true,o9,bind_pure]

theorem Zh{t f off ft:Nat}{a:Operand}{cs:Array Value}(ho:o.op= .field t a f)[i:FA x.P t f off ft][SC x.P ft](ha:ev ρ a=some (.agg cs))(hc:cs[off]? =some v):Yv x S ρ o v:=fun e he F hF h' hE=>by
  obtain⟨fs,fl,j,h1,h2,h3,h4,h5,h6⟩:=i.out
  have hu:TD x.P t (.struct fs):=⟨h1⟩
  subst h4
  simp only[execOp,ho,he a _ ha,Instr.field,asAgg,bind_eq,gq,bind_assoc,bind_pure,aC,h2,h3,lT hc]
  exact⟨rfl,rfl⟩
theorem Wq{t f off ft n:Nat}{a:Operand}{cs vs:Array Value}(ho:o.op= .field t a f)[i:FA x.P t f off ft][AG x.P ft n](ha:ev ρ a=some (.agg cs))(hc:cs.extract off (off+n)=vs):Yv x S ρ o (.agg vs):=fun e he F hF h' hE=>by
  obtain⟨fs,fl,j,h1,h2,h3,h4,h5,h6⟩:=i.out
  have hu:TD x.P t (.struct fs):=⟨h1⟩
  subst h4
  simp only[execOp,ho,he a _ ha,Instr.field,asAgg,bind_eq,gq,bind_assoc,bind_pure,aC,h2,h3,ru,hc]
  exact⟨rfl,rfl⟩
theorem Ti{t E s by' m:Nat}{z:Value}{zc:Array Value}{a ix:Operand}{cs:Array Value}{k:IntKind}{n:Int}(ho:o.op= .index t a ix)[TD x.P t (.array m E)][TI x.P E s by' z zc][SC x.P E](ha:ev ρ a=some (.agg cs))(hi:ev ρ ix=some (.int k n))(h0:0≤n)(h1:n<m)(hc:cs[n.toNat*s]? =some v):Yv x S ρ o v:=fun e he F hF h' hE=>by
  simp only[execOp,ho,he a _ ha,he ix _ hi,Instr.index,asIntOf,bind_eq,gq,bind_assoc,bind_pure,aC,h0,h1,and_self,if_true,dH,lT hc]
  exact⟨rfl,rfl⟩
theorem Ws{t E s by' m n':Nat}{z:Value}{zc:Array Value}{a ix:Operand}{cs vs:Array Value}{k:IntKind}{n:Int}(ho:o.op= .index t a ix)[TD x.P t (.array m E)][TI x.P E s by' z zc][AG x.P E n'](ha:ev ρ a=some (.agg cs))(hi:ev ρ ix=some (.int k n))(h0:0≤n)(h1:n<m)(hc:cs.extract (n.toNat*s) (n.toNat*s+n')=vs):Yv x S ρ o (.agg vs):=fun e he F hF h' hE=>by
  simp only[execOp,ho,he a _ ha,he ix _ hi,Instr.index,asIntOf,bind_eq,gq,bind_assoc,bind_pure,aC,h0,h1,and_self,if_true,dH,ru,hc]
  exact⟨rfl,rfl⟩

/-! #### numbers -/
theorem ny{op:BinOp}{t t':TypeId}{y z:Operand}{k k':IntKind}{a b:Int}{u:Value}(ho:o.op= .binOp op t y z t')(hy:ev ρ y=some (.int k a))(hz:ev ρ z=some (.int k' b))(h:binOp op t (.int k a) (.int k' b)= .pure u):Yv x S ρ o u:=fun e he F hF h' hE=>by
  have hg:eqGuard op t y z (.int k a) (.int k' b)= .pure ():=by
    unfold eqGuard
    split <;>rfl
  simp only[execOp,ho,he y _ hy,he z _ hz,hg,bind_eq,gq,bind_assoc,bind_pure,h]
  exact⟨rfl,rfl⟩

theorem nC{n:Int}(h0: -9223372036854775808≤n)(h1:n≤9223372036854775807):IntKind.i64.wrap n=n:=IntWalk.i64_in n ⟨h0,h1⟩

theorem aaI{t t':TypeId}{y z:Operand}{a b:Int}(ho:o.op= .binOp .add t y z t')(hy:ev ρ y=some (.int .i64 a))(hz:ev ρ z=some (.int .i64 b))(h0: -9223372036854775808≤a+b)(h1:a+b≤9223372036854775807):Yv x S ρ o (.int .i64 (a+b)):=
  ny ho hy hz (by show Sem.pure _=_;rw[nC h0 h1])
theorem aaJ{t t':TypeId}{y z:Operand}{a b:Int}(ho:o.op= .binOp .sub t y z t')(hy:ev ρ y=some (.int .i64 a))(hz:ev ρ z=some (.int .i64 b))(h0: -9223372036854775808≤a-b)(h1:a-b≤9223372036854775807):Yv x S ρ o (.int .i64 (a-b)):=
  ny ho hy hz (by show Sem.pure _=_;rw[nC h0 h1])
theorem aLL{t t':TypeId}{y z:Operand}{a b:Int}(ho:o.op= .binOp .mul t y z t')(hy:ev ρ y=some (.int .i64 a))(hz:ev ρ z=some (.int .i64 b))(h0: -9223372036854775808≤a*b)(h1:a*b≤9223372036854775807):Yv x S ρ o (.int .i64 (a*b)):=
  ny ho hy hz (by show Sem.pure _=_;rw[nC h0 h1])
theorem MZ{t t':TypeId}{y z:Operand}{k:IntKind}{a b:Int}(ho:o.op= .binOp .add t y z t')(hy:ev ρ y=some (.int k a))(hz:ev ρ z=some (.int k b)):Yv x S ρ o (.int k (k.wrap (a+b))):=
  ny ho hy hz (by cases k <;>rfl)
theorem M_{t t':TypeId}{y z:Operand}{k:IntKind}{a b:Int}(ho:o.op= .binOp .sub t y z t')(hy:ev ρ y=some (.int k a))(hz:ev ρ z=some (.int k b)):Yv x S ρ o (.int k (k.wrap (a-b))):=
  ny ho hy hz (by cases k <;>rfl)
theorem Fz{t t':TypeId}{y z:Operand}{k:IntKind}{a b:Int}(ho:o.op= .binOp .mul t y z t')(hy:ev ρ y=some (.int k a))(hz:ev ρ z=some (.int k b)):Yv x S ρ o (.int k (k.wrap (a*b))):=
  ny ho hy hz (by cases k <;>rfl)
theorem fO{t t':TypeId}{y z:Operand}{k:IntKind}{a b:Int}(ho:o.op= .binOp .lss t y z t')(hy:ev ρ y=some (.int k a))(hz:ev ρ z=some (.int k b)):Yv x S ρ o (.bool (decide (a<b))):=
  ny ho hy hz (by cases k <;>rfl)
theorem Lr{t t':TypeId}{y z:Operand}{k:IntKind}{a b:Int}(ho:o.op= .binOp .leq t y z t')(hy:ev ρ y=some (.int k a))(hz:ev ρ z=some (.int k b)):Yv x S ρ o (.bool (decide (a≤b))):=
  ny ho hy hz (by cases k <;>rfl)
theorem rC{t t':TypeId}{y z:Operand}{k:IntKind}{a b:Int}(ho:o.op= .binOp .gtr t y z t')(hy:ev ρ y=some (.int k a))(hz:ev ρ z=some (.int k b)):Yv x S ρ o (.bool (decide (b<a))):=
  ny ho hy hz (by cases k <;>rfl)
theorem IJ{t t':TypeId}{y z:Operand}{k:IntKind}{a b:Int}(ho:o.op= .binOp .geq t y z t')(hy:ev ρ y=some (.int k a))(hz:ev ρ z=some (.int k b)):Yv x S ρ o (.bool (decide (b≤a))):=
  ny ho hy hz (by cases k <;>rfl)
theorem Ii(a b:Int):(a==b)=decide (a=b):=by by_cases h:a=b <;>simp[h]
theorem nD{t t':TypeId}{y z:Operand}{k:IntKind}{a b:Int}(ho:o.op= .binOp .eql t y z t')(hy:ev ρ y=some (.int k a))(hz:ev ρ z=some (.int k b)):Yv x S ρ o (.bool (decide (a=b))):=
  ny ho hy hz (by rw[←Ii];cases k <;>rfl)
theorem nG{t t':TypeId}{y z:Operand}{k:IntKind}{a b:Int}(ho:o.op= .binOp .neq t y z t')(hy:ev ρ y=some (.int k a))(hz:ev ρ z=some (.int k b)):Yv x S ρ o (.bool (decide (a≠b))):=
  ny ho hy hz (by
    have:decide (a≠b)=(a !=b):=by by_cases h:a=b <;>simp[h]
    rw[this];cases k <;>rfl)
theorem Wu{t t':TypeId}{y z:Operand}{k:IntKind}{a b:Int}(ho:o.op= .binOp .rem t y z t')(hy:ev ρ y=some (.int k a))(hz:ev ρ z=some (.int k b))(hb:b≠0):Yv x S ρ o (.int k (a.tmod b)):=
  ny ho hy hz (by simp only[binOp,Op.intDiv,if_neg hb];cases k <;>rfl)
theorem acH{t t':TypeId}{y z:Operand}{k:IntKind}{a b:Int}(ho:o.op= .binOp .quo t y z t')(hy:ev ρ y=some (.int k a))(hz:ev ρ z=some (.int k b))(hb:b≠0):Yv x S ρ o (.int k (k.wrap (a.tdiv b))):=
  ny ho hy hz (by simp only[binOp,Op.intDiv,if_neg hb];cases k <;>rfl)
theorem Wx{t t':TypeId}{y z:Operand}{k k':IntKind}{a b:Int}(ho:o.op= .binOp .shl t y z t')(hy:ev ρ y=some (.int k a))(hz:ev ρ z=some (.int k' b))(hb:0≤b):Yv x S ρ o (.int k (k.wrap (a*2 ^ (min b.toNat k.bits)))):=
  ny ho hy hz (by
                     have:¬b<0:=by omega
                     simp only[binOp,Op.shift,if_neg this];rfl)
theorem Gw{t t':TypeId}{y z:Operand}{k k':IntKind}{a b:Int}(ho:o.op= .binOp .shr t y z t')(hy:ev ρ y=some (.int k a))(hz:ev ρ z=some (.int k' b))(hb:0≤b):Yv x S ρ o (.int k (a.fdiv (2 ^ (min b.toNat k.bits)))):=
  ny ho hy hz (by
                     have:¬b<0:=by omega
                     simp only[binOp,Op.shift,if_neg this];rfl)
def bits(op:BinOp)(k:IntKind)(a b:Int):Int:=
  let x:=BitVec.ofInt k.bits a
  let y:=BitVec.ofInt k.bits b
  match op with
  | .and=>k.wrap (x&&&y).toNat
  | .or=>k.wrap (x||| y).toNat
  | .xor=>k.wrap (x ^^^ y).toNat
  | _=>k.wrap (x&&& ~~~y).toNat
theorem aaK{t t':TypeId}{y z:Operand}{k:IntKind}{a b:Int}(ho:o.op= .binOp .and t y z t')(hy:ev ρ y=some (.int k a))(hz:ev ρ z=some (.int k b)):Yv x S ρ o (.int k (bits .and k a b)):=ny ho hy hz (by cases k <;>rfl)
theorem acI{t t':TypeId}{y z:Operand}{k:IntKind}{a b:Int}(ho:o.op= .binOp .or t y z t')(hy:ev ρ y=some (.int k a))(hz:ev ρ z=some (.int k b)):Yv x S ρ o (.int k (bits .or k a b)):=ny ho hy hz (by cases k <;>rfl)
theorem Gx{t t':TypeId}{y z:Operand}{k:IntKind}{a b:Int}(ho:o.op= .binOp .xor t y z t')(hy:ev ρ y=some (.int k a))(hz:ev ρ z=some (.int k b)):Yv x S ρ o (.int k (bits .xor k a b)):=ny ho hy hz (by cases k <;>rfl)
theorem OL{t t':TypeId}{y z:Operand}{k:IntKind}{a b:Int}(ho:o.op= .binOp .andNot t y z t')(hy:ev ρ y=some (.int k a))(hz:ev ρ z=some (.int k b)):Yv x S ρ o (.int k (bits .andNot k a b)):=ny ho hy hz (by cases k <;>rfl)

theorem xU{t:TypeId}{y:Operand}{b:Bool}(ho:o.op= .unOp .not t y)(hy:ev ρ y=some (.bool b)):Yv x S ρ o (.bool (!b)):=fun e he F hF h' hE=>by
  simp only[execOp,ho,he y _ hy];exact⟨rfl,rfl⟩
theorem acJ{t:TypeId}{y:Operand}{n:Int}(ho:o.op= .unOp .neg t y)(hy:ev ρ y=some (.int .i64 n))(h0: -9223372036854775807≤n)(h1:n≤9223372036854775807):Yv x S ρ o (.int .i64 (-n)):=fun e he F hF h' hE=>by
  have:IntKind.i64.wrap (0-n)= -n:=by rw[nC (by omega) (by omega)];omega
  simp only[execOp,ho,he y _ hy,Op.unary,Op.intArith,this];exact⟨rfl,rfl⟩
theorem FC{t t':TypeId}{d:TypeDesc}{y:Operand}{k k':IntKind}{n:Int}(ho:o.op= .convert t t' y)[TD x.P t d][TD x.P t' (.int k')](hy:ev ρ y=some (.int k n)):Yv x S ρ o (.int k' (k'.wrap n)):=fun e he F hF h' hE=>by
  simp only[execOp,ho,he y _ hy,convert,Conv.intToInt,bind_eq,gq,bind_assoc,bind_pure,aC]
  cases d <;>exact⟨rfl,rfl⟩

/-! #### interfaces, functions, tuples -/
theorem Tj{t:TypeId}{d:TypeDesc}{y:Operand}{u:Value}(ho:o.op= .makeInterface t y)[TD x.P t d](hd:∀ms,d≠ .interface ms)(hy:ev ρ y=some u):Yv x S ρ o (.iface t u):=fun e he F hF h' hE=>by
  simp only[execOp,ho,he y _ hy,Instr.makeInterface,bind_eq,gq,bind_assoc,bind_pure,aC]
  cases d <;>first | exact⟨rfl,rfl⟩ | exact absurd rfl (hd _)
def evs(ρ:Env):List Operand→Option (List Value)
  | []=>some []
  | y::r=>match ev ρ y,evs ρ r with | some v,some vs=>some (v::vs) | _,_=>none
theorem lN{e:Operand→Value}(he:∀y v,ev ρ y=some v→e y=v):∀{l:List Operand} {vs:List Value},evs ρ l=some vs→l.map e=vs
  | [],vs,h=>by cases h;rfl
  | y::r,vs,h=>by
    unfold evs at h
    split at h
    · rename_i v vs' h1 h2;cases h;simp[he y v h1,lN he h2]
    · cases h
theorem ayq{f:Go.Fn}{fi ca:List Operand}{vs us:List Value}(ho:o.op= .makeFunc f fi.toArray ca.toArray)(h1:evs ρ fi=some vs)(h2:evs ρ ca=some us):Yv x S ρ o (.func f vs.toArray us.toArray):=fun e he F hF h' hE=>by
  simp only[execOp,ho,Instr.makeFunc,List.map_toArray,lN he h1,lN he h2];exact⟨rfl,rfl⟩
theorem bD{y:Operand}{n:Nat}{vs:Array Value}(ho:o.op= .extract y n)(hy:ev ρ y=some (.tuple vs))(hv:vs[n]? =some v):Yv x S ρ o v:=fun e he F hF h' hE=>by
  simp only[execOp,ho,he y _ hy,Instr.extract,hv];exact⟨rfl,rfl⟩

/-! #### builtins -/
theorem dM{y:Operand}{t E:TypeId}{a:Option Addr}{n c:Nat}(ho:o.op= .call ⟨.builtin .len, #[y], #[t]⟩)[TD x.P t (.slice E)](hy:ev ρ y=some (.slice a n c)):Yv x S ρ o (.int .i64 n):=fun e he F hF h' hE=>by
  simp only[execOp,ho,resolve,invoke,builtin,Builtin.len_,List.map_toArray,List.map_cons,List.map_nil,he y _ hy,List.getElem?_toArray,List.getElem?_cons_zero,bind_eq,gq,bind_assoc,bind_pure,aC]
  exact⟨rfl,rfl⟩
theorem acK{y:Operand}{t E:TypeId}{a:Option Addr}{n c:Nat}(ho:o.op= .call ⟨.builtin .cap, #[y], #[t]⟩)[TD x.P t (.slice E)](hy:ev ρ y=some (.slice a n c)):Yv x S ρ o (.int .i64 c):=fun e he F hF h' hE=>by
  simp only[execOp,ho,resolve,invoke,builtin,Builtin.cap_,List.map_toArray,List.map_cons,List.map_nil,he y _ hy,List.getElem?_toArray,List.getElem?_cons_zero,bind_eq,gq,bind_assoc,bind_pure,aC]
  exact⟨rfl,rfl⟩
theorem Tm{y z:Operand}{ts:Array TypeId}{k:IntKind}{a b:Int}(ho:o.op= .call ⟨.builtin .min, #[y,z],ts⟩)(hy:ev ρ y=some (.int k a))(hz:ev ρ z=some (.int k b)):Yv x S ρ o (.int k (min a b)):=fun e he F hF h' hE=>by
  have:min a b=if b<a then b else a:=by split <;>omega
  rw[this]
  simp only[execOp,ho,resolve,invoke,builtin,Builtin.min_,List.map_toArray,List.map_cons,List.map_nil,he y _ hy,he z _ hz]
  exact⟨rfl,rfl⟩
theorem y8{y z:Operand}{ts:Array TypeId}{k:IntKind}{a b:Int}(ho:o.op= .call ⟨.builtin .max, #[y,z],ts⟩)(hy:ev ρ y=some (.int k a))(hz:ev ρ z=some (.int k b)):Yv x S ρ o (.int k (max a b)):=fun e he F hF h' hE=>by
  have:max a b=if b>a then b else a:=by split <;>omega
  rw[this]
  simp only[execOp,ho,resolve,invoke,builtin,Builtin.max_,List.map_toArray,List.map_cons,List.map_nil,he y _ hy,he z _ hz]
  exact⟨rfl,rfl⟩
end rules
end Go.aS

/- Laws of the operations that make memory, write it, or call. Conditions: none; over any program. -/
namespace Go.aS
inductive Seg(A:eG):eG→(eG→eG)→Prop
 | head {G:eG}:Seg A (A++G) (fun A'=>A'++G)
 | tail {y:Nat×Obj} {F:eG} {U:eG→eG} (h:Seg A F U):Seg A (y::F) (fun A'=>y::U A')
 | app {B:eG} {F:eG} {U:eG→eG} (h:Seg A F U):Seg A (B++F) (fun A'=>B++U A')
 | all:Seg A A (fun A'=>A')

theorem Seg.perm{A F:eG}{U:eG→eG}(h:Seg A F U):(A++U []).Perm F∧∀A',(U A').Perm (A'++U []):=by
 induction h with
 | head=>exact⟨by simp,fun A'=>by simp⟩
 | @tail y F U h ih=>exact⟨(List.perm_middle).trans (ih.1.cons y),fun A'=>((ih.2 A').cons y).trans List.perm_middle.symm⟩
 | @app B F U h ih=>
  have e:∀X:eG,(X++(B++U [])).Perm (B++(X++U [])):=fun X=>by
   rw[←List.append_assoc,←List.append_assoc]
   exact List.perm_append_comm.append_right _
  exact⟨(e A).trans (ih.1.append_left B),fun A'=>((ih.2 A').append_left B).trans (e A').symm⟩
 | all=>exact⟨by simp,fun A'=>by simp⟩

inductive At(b:Nat)(o:Obj):eG→(Obj→eG)→Prop
 | head {G:eG}:At b o ((b,o)::G) (fun o'=>(b,o')::G)
 | tail {y:Nat×Obj} {F:eG} {U:Obj→eG} (h:At b o F U):At b o (y::F) (fun o'=>y::U o')
 | app {B:eG} {F:eG} {U:Obj→eG} (h:At b o F U):At b o (B++F) (fun o'=>B++U o')

theorem At.split{b:Nat}{o:Obj}{F:eG}{U:Obj→eG}(h:At b o F U):∃F1 F2,F=F1++(b,o)::F2∧∀o',U o'=F1++(b,o')::F2:=by
 induction h with
 | @head G=>exact⟨[],G,rfl,fun _=>rfl⟩
 | @tail y F U h ih=>obtain⟨F1,F2,h1,h2⟩:=ih;exact⟨y::F1,F2,by rw[h1];rfl,fun o'=>by show y::U o'=_;rw[h2 o'];rfl⟩
 | @app B F U h ih=>obtain⟨F1,F2,h1,h2⟩:=ih;exact⟨B++F1,F2,by rw[h1,List.append_assoc],fun o'=>by show B++U o'=_;rw[h2 o',List.append_assoc]⟩

def Ef(x:Cx)(ρ:Env)(o:Oper)(F:eG)(R:Value→eG→Prop):Prop:=
 ∀e:Operand→Value,(∀y v,ev ρ y=some v→e y=v)→Dx x o e F fun v F'=>∃Lp,Lp.Perm F'∧R v Lp

section rules
variable{x:Cx}{Q:Post}{ρ:Env}{ds:List Deferred}{F:eG}{ops:Array Oper}{L:eG}{i:Nat}{rest:List Nat}{o:Oper}{v:Value}{R:Value→eG→Prop}
theorem Ops.eff(H:Ef x ρ o F fun v F'=>Ops x ops rest Q (put ρ o.dst v) ds F')(ho:ops[i]? =some o)(hw:want ops ρ o)(hd:d_ o.dst x.n=true)(hn:QS o.op=true):Ops x ops (i::rest) Q ρ ds F:=
 Ops.op ho hw hd (gI hn) fun e he=>(H e he).mono fun v F' ⟨Lp,p,h⟩=>Ops.perm p h

theorem Any.eff{fuel listed:Nat}(H:Ef x ρ o F fun v F'=>(lastT ops i=true∨Keeps L F')∧Any x ops L fuel (listed||| 2 ^ i) Q (put ρ o.dst v) ds F')(hr:qx ops listed=[i])(hi:ops[i]? =some o)(hw:dR ops (look ρ) o true)(hd:d_ o.dst x.n=true)(hn:QS o.op=true):
  Any x ops L (fuel+1) listed Q ρ ds F:=
 Any.one hr hi hw hd (gI hn) fun e he=>(H e he).mono fun v F' ⟨Lp,p,h1,h2⟩=>⟨h1.imp id (Keeps.perm p),Any.perm p h2⟩

theorem Any.WB{fuel listed i j:Nat}{o o':Oper}(hr:qx ops listed=[i,j])(hi:ops[i]? =some o)(hj:ops[j]? =some o')(hw:dR ops (look ρ) o true)(hw':dR ops (look ρ) o' true)(hd:d_ o.dst x.n=true)(hd':d_ o'.dst x.n=true)(hn:QS o.op=true)(hn':QS o'.op=true)
  (H:Ef x ρ o F fun v F'=>(lastT ops i=true∨Keeps L F')∧Any x ops L fuel (listed||| 2 ^ i) Q (put ρ o.dst v) ds F')
  (H':Ef x ρ o' F fun v F'=>(lastT ops j=true∨Keeps L F')∧Any x ops L fuel (listed||| 2 ^ j) Q (put ρ o'.dst v) ds F'):Any x ops L (fuel+1) listed Q ρ ds F:=
 Any.two hr (QO.op hi hw hd (gI hn) fun e he=>(H e he).mono fun v F' ⟨Lp,p,h1,h2⟩=>⟨h1.imp id (Keeps.perm p),Any.perm p h2⟩)
  (QO.op hj hw' hd' (gI hn') fun e he=>(H' e he).mono fun v F' ⟨Lp,p,h1,h2⟩=>⟨h1.imp id (Keeps.perm p),Any.perm p h2⟩)

theorem Ef.xW(H:∀e:Operand→Value,(∀y v,ev ρ y=some v→e y=v)→∀h',Ext x.h h'→tr x.P h' (execOp e o) F fun nx F'=>∃v,(nx= .value v∨nx= .skip∧v=undef)∧R v F'):Ef x ρ o F R:=fun e he=>
 ⟨F,[],by simp,fun h' hE _=>lM (H e he h' hE) fun nx F' ⟨v,h1,h2⟩=>by
  rcases h1 with rfl | ⟨rfl,rfl⟩ <;>exact⟨F',by simp,h2⟩⟩

theorem Ext.none{h h':Hp}(e:Ext h h'){b:Nat}(hb:h' b=none):h b=none:=by
 cases hh:h b with
 | none=>rfl
 | some o=>rw[e.1 b o hh]at hb;cases hb

theorem wI{P:Program}{h:Hp}{β:Type}{ob:Obj}{f:Nat→Sem β}{Q:β→eG→Prop}(H:∀r,h r=none→(∀o,(r,o)∉F)→tr P h (f r) ((r,ob)::F) Q)(hn:ob.isChan=false:=by rfl):tr P h ((newObj ob).bind f) F Q:=⟨fun e=>(by rw[hn]at e;cases e),H⟩

theorem wJ{t s b:Nat}{z:Value}{zc:Array Value}(ho:o.op= .alloc t)[TI x.P t s b z zc](H:∀β,x.h β=none→(∀o,(β,o)∉F)→R (.pointer (some ⟨β,0,none⟩)) ((β,.cells zc t (0,0))::F)):Ef x ρ o F R:=
 Ef.xW fun e he h' hE=>by
  obtain⟨j,_,_,_,_,hz⟩:=TI.out (inferInstance:TI x.P t s b z zc)
  simp only[execOp,ho,Instr.alloc,newVar,newRow,bind_eq,gq,bind_assoc,bind_pure,fG,hz]
  exact wI fun r h1 h2=>⟨_,.inl rfl,H r (hE.none h1) h2⟩

theorem aaL{t:TypeId}{y:Operand}{u:Value}{cs:Array Value}(ho:o.op= .box t y)(hy:ev ρ y=some u)(hc:u.cells=cs)(H:∀β,x.h β=none→(∀o,(β,o)∉F)→R (.pointer (some ⟨β,0,none⟩)) ((β,.cells cs t (0,0))::F)):Ef x ρ o F R:=
 Ef.xW fun e he h' hE=>by
  simp only[execOp,ho,he y _ hy,Instr.box,newVar,newRow,bind_eq,gq,bind_assoc,bind_pure,hc]
  exact wI fun r h1 h2=>⟨_,.inl rfl,H r (hE.none h1) h2⟩
theorem OM{P:Program}{h:Hp}{b off:Nat}{c:Array Value}{E:TypeId}{U:Obj→eG}{u:Value}{Q:Unit→eG→Prop}(h1:one u=true)(hl:At b (.cells c E (0,0)) F U)(hc:off<c.size)(H:Q () (U (.cells (c.setIfInBounds off u) E (0,0)))):tr P h (store ⟨b,off,none⟩ u) F Q:=by
 obtain⟨F1,F2,e1,e2⟩:=hl.split
 refine⟨rfl,rfl,h1,c,E,0,0,F1,F2,e1,hc,by simp,?_⟩
 rw[e2]at H
 exact H

theorem OO{u:Value}(h:one u=true):u.cells= #[u]:=by cases u <;>first | rfl | cases h

theorem Tn{t s b':Nat}{z:Value}{zc:Array Value}{a y:Operand}{b off:Nat}{c:Array Value}{E:TypeId}{U:Obj→eG}{u:Value}(ho:o.op= .store t a y)[TI x.P t 1 b' z zc](ha:ev ρ a=some (.pointer (some ⟨b,off,none⟩)))(hy:ev ρ y=some u)(h1:one u=true)(hl:At b (.cells c E (0,0)) F U)(hc:off<c.size)
  (H:R undef (U (.cells (c.setIfInBounds off u) E (0,0)))):Ef x ρ o F R:=
 Ef.xW fun e he h' hE=>by
  simp only[execOp,ho,he a _ ha,he y _ hy,Instr.storeAt,Instr.sureAddr,storeVar,bind_eq,gq,bind_assoc,bind_pure,dH,OO h1,List.size_toArray,List.length_cons,List.length_nil,Nat.zero_add,ne_eq,not_true_eq_false,if_false,storeCells,jE,Nat.add_zero]
  exact bJ (OM h1 hl hc ⟨_,.inr ⟨rfl,rfl⟩,H⟩)

def jv(c:Array Value)(off:Nat):List Value→Array Value
 | []=>c
 | u::r=>jv (c.setIfInBounds off u) (off+1) r
def ones:List Value→Bool
 | []=>true
 | u::r=>one u&&ones r

theorem y9:∀(vs:List Value) (c:Array Value) (off:Nat),(jv c off vs).size=c.size
 | [],c,off=>rfl
 | u::r,c,off=>by simp[jv,y9 r]

theorem IK:∀(vs:List Value) (c:Array Value) (off j:Nat),off+vs.length≤c.size→(jv c off vs)[j]? =if off≤j∧j<off+vs.length then vs[j-off]? else c[j]?
 | [],c,off,j,h=>by
  have h1:¬(off≤j∧j<off+0):=by omega
  simp only[jv,List.length_nil,h1,if_false]
 | u::r,c,off,j,h=>by
  simp only[List.length_cons]at h⊢
  rw[jv,IK r _ _ _ (by simp;omega),Array.getElem?_setIfInBounds]
  by_cases h1:off+1≤j∧j<off+1+r.length
  ·have h2:off≤j∧j<off+(r.length+1):=by omega
   simp only[h1,h2,and_self,if_true]
   have:j-off=(j- (off+1))+1:=by omega
   rw[this,List.getElem?_cons_succ]
  ·simp only[h1,if_false]
   by_cases h3:off=j
   ·subst h3
    have h2:off≤off∧off<off+(r.length+1):=by omega
    have h4:off<c.size:=by omega
    simp[h2,h4]
   ·have h2:¬(off≤j∧j<off+(r.length+1)):=by omega
    simp only[h2,if_false,h3]

theorem IL{c:Array Value}{vs:List Value}(h:vs.length=c.size):jv c 0 vs=vs.toArray:=by
 apply Array.ext_getElem?
 intro j
 rw[IK _ _ _ _ (by omega)]
 by_cases hj:j<vs.length
 ·simp[hj]
 ·have h1:¬(0≤j∧j<0+vs.length):=by omega
  rw[if_neg h1,Array.getElem?_eq_none (by omega),List.getElem?_toArray,List.getElem?_eq_none (by omega)]

theorem kV{P:Program}{h:Hp}{b off:Nat}{E:TypeId}:∀(vs:List Value) (i:Nat) (c:Array Value) {F:eG} {U:Obj→eG} {Q:Unit→eG→Prop},ones vs=true→At b (.cells c E (0,0)) F U→off+i+vs.length≤c.size→Q () (U (.cells (jv c (off+i) vs) E (0,0)))→tr P h (storeCells ⟨b,off,none⟩ vs i) F Q
 | [],i,c,F,U,Q,_,hl,_,H=>by
  obtain⟨F1,F2,e1,e2⟩:=hl.split
  rw[jv,e2,←e1]at H
  exact H
 | u::r,i,c,F,U,Q,hu,hl,hc,H=>by
  simp only[ones,Bool.and_eq_true]at hu
  simp only[List.length_cons]at hc
  obtain⟨F1,F2,e1,e2⟩:=hl.split
  simp only[storeCells,jE,bind_eq]
  refine bJ (OM hu.1 hl (by omega) ?_)
  have hl':At b (.cells (c.setIfInBounds (off+i) u) E (0,0)) (U (.cells (c.setIfInBounds (off+i) u) E (0,0))) (fun o'=>F1++(b,o')::F2):=by
   rw[e2];exact .app .head
  refine kV r (i+1) _ hu.2 hl' (by simp;omega) ?_
  rw[e2]at H
  exact H

theorem OQ{t n:Nat}{a y:Operand}{b off:Nat}{c vs:Array Value}{E:TypeId}{U:Obj→eG}(ho:o.op= .store t a y)[AG x.P t n](ha:ev ρ a=some (.pointer (some ⟨b,off,none⟩)))(hy:ev ρ y=some (.agg vs))(hn:vs.size=n)(h1:ones vs.toList=true)(hl:At b (.cells c E (0,0)) F U)(hc:off+n≤c.size)
  (H:R undef (U (.cells (jv c off vs.toList) E (0,0)))):Ef x ρ o F R:=
 Ef.xW fun e he h' hE=>by
  have hs:(Value.agg vs).cells=vs:=rfl
  simp only[execOp,ho,he a _ ha,he y _ hy,Instr.storeAt,Instr.sureAddr,storeVar,bind_eq,gq,bind_assoc,bind_pure,o9,hs,hn,ne_eq,not_true_eq_false,if_false]
  refine bJ (kV vs.toList 0 c h1 hl (by simp;omega) ⟨_,.inr ⟨rfl,rfl⟩,by simpa using H⟩)
theorem OT{t n:Nat}{a y:Operand}{b:Nat}{c vs:Array Value}{E:TypeId}{U:Obj→eG}(ho:o.op= .store t a y)[AG x.P t n](ha:ev ρ a=some (.pointer (some ⟨b,0,none⟩)))(hy:ev ρ y=some (.agg vs))(hn:vs.size=n)(h1:ones vs.toList=true)(hl:At b (.cells c E (0,0)) F U)(hc:c.size=n)
  (H:R undef (U (.cells vs E (0,0)))):Ef x ρ o F R:=
 OQ ho ha hy hn h1 hl (by omega) (by rw[IL (by simp;omega)];simpa using H)

/-! #### built values -/
def placesOf(P:Program):TypeDesc→Option (List (Nat×Option Nat))
 | .struct fs=>some (fs.toList.map fun fl=>(fl.offset,(P.info? fl.type).map (·.size)))
 | _=>none
class BP(P:Program)(t:TypeId)(pl:outParam (List (Nat×Nat))):Prop where
 eq:(P.underlying t).bind (placesOf P)=some (pl.map fun p=>(p.1,some p.2))
theorem Ls{P:Program}{h:Hp}{F:eG}:∀{fs:List Field} {pl:List (Nat×Nat)} {Q:List (Nat×Nat)→eG→Prop},fs.map (fun fl=>(fl.offset,(P.info? fl.type).map (·.size)))=pl.map (fun p=>(p.1,some p.2))→Q pl F→tr P h (fs.mapM (m:=Sem) fun f=>do pure (f.offset,←sizeOf f.type)) F Q
 | [],pl,Q,hp,H=>by
  have:pl=[]:=by cases pl <;>simp_all
  subst this
  exact H
 | f::fs,[],Q,hp,H=>by simp at hp
 | f::fs,p::pl,Q,hp,H=>by
  simp only[List.map_cons,List.cons.injEq,Prod.mk.injEq]at hp
  obtain⟨⟨h1,h2⟩,h3⟩:=hp
  obtain⟨j,h4,h5⟩:=Option.map_eq_some_iff.1 h2
  have ih:=Ls (P:=P) (h:=h) (F:=F) (Q:=fun l F'=>Q (p::l) F') h3 H
  rw[List.mapM_cons]
  have e1:∀{β:Type} (g:Nat×Nat→Sem β) (Q':β→eG→Prop),tr P h (g p) F Q'→tr P h ((do pure (f.offset,←sizeOf f.type):Sem (Nat×Nat)).bind g) F Q':=by
   intro β g Q' hg
   simp only[sizeOf,bind_eq,gq,bind_assoc,bind_pure,dJ h4,h1,h5]
   exact hg
  exact e1 _ _ (bJ ih)
theorem BP.out{P:Program}{t:TypeId}{pl:List (Nat×Nat)}(i:BP P t pl):∃fs,P.underlying t=some (.struct fs)∧∀(h:Hp) (F:eG) (Q:Array (Nat×Nat)→eG→Prop),Q pl.toArray F→tr P h (fs.mapM fun f=>do pure (f.offset,←sizeOf f.type)) F Q:=by
 obtain⟨d,h1,h2⟩:=Option.bind_eq_some_iff.1 i.eq
 cases d with
 | struct fs=>
  refine⟨fs,h1,fun h F Q H=>?_⟩
  have e:fs=fs.toList.toArray:=by simp
  rw[e,List.mapM_toArray]
  simp only[map_eq_pure_bind,bind_eq,gq]
  simp only[placesOf,Option.some.injEq]at h2
  exact bJ (Ls h2 H)
 | _=>cases h2

theorem eH{t s b:Nat}{z:Value}{zc:Array Value}{pl:List (Nat×Nat)}{parts:List (Nat×Operand)}{vs:List Value}{cs:Array Value}{S:eG→Prop}(ho:o.op= .build t parts.toArray)[bp:BP x.P t pl][TI x.P t s b z zc](hv:evs ρ (parts.map (·.2))=some vs)
  (hf:Instr.fill (fun i:Nat=>pl[i]?) zc ((parts.map (·.1)).zip vs)=some cs):Yv x S ρ o (.agg cs):=fun e he F hF h' hE=>by
 obtain⟨fs,hu,hm⟩:=BP.out bp
 have:TD x.P t (.struct fs):=⟨hu⟩
 obtain⟨j,_,_,_,_,hz⟩:=TI.out (inferInstance:TI x.P t s b z zc)
 have hp:parts.map (fun(p:Nat×Operand)=>(p.1,e p.2))=(parts.map (·.1)).zip vs:=by
  rw[←lN he hv,List.map_map]
  clear hf hv ho
  induction parts with
  | nil=>rfl
  | cons p r ih=>simp[ih]
 simp only[execOp,ho,Instr.build,List.map_toArray,bind_eq,gq,bind_assoc,bind_pure,fG,aC,hz]
 refine bJ (hm h' F _ ?_)
 have e1:(fun i:Nat=>(pl.toArray)[i]?)=fun i:Nat=>pl[i]? :=by funext i;simp
 have hp':(parts.map fun x=>match x with | (i,y)=>(i,e y))=(parts.map (·.1)).zip vs:=hp
 simp only[hp',e1,hf]
 exact⟨rfl,rfl⟩

theorem DN{t E s b len:Nat}{z:Value}{zc:Array Value}{parts:List (Nat×Operand)}{vs:List Value}{cs:Array Value}(ho:o.op= .buildSlice t len parts.toArray)[TD x.P t (.slice E)][TI x.P E s b z zc](hv:evs ρ (parts.map (·.2))=some vs)(hls:0<len*s)(hl:len*s≤2 ^ 24)
  (hf:Instr.fill (fun i=>some (i*s,s)) ((Array.range (len*s)).map (zc[· % zc.size]!)) ((parts.map (·.1)).zip vs)=some cs)
  (H:∀β,x.h β=none→(∀o,(β,o)∉F)→R (.slice (some ⟨β,0,none⟩) len len) ((β,.cells cs E (0,0))::F)):Ef x ρ o F R:=
 Ef.xW fun e he h' hE=>by
  obtain⟨j,_,_,_,_,hz⟩:=TI.out (inferInstance:TI x.P E s b z zc)
  have hp:(parts.map fun x=>match x with | (i,y)=>(i,e y))=(parts.map (·.1)).zip vs:=by
   rw[←lN he hv,List.map_map]
   clear hf hv ho
   induction parts with
   | nil=>rfl
   | cons p r ih=>simp[ih]
  have h1:¬len*s>2 ^ 24:=by omega
  have h2:¬len*s=0:=by omega
  simp only[execOp,ho,Instr.buildSlice,newRow,List.map_toArray,bind_eq,gq,bind_assoc,bind_pure,fG,aC,dH,hz,if_neg h1,if_neg h2,hp,hf]
  exact wI fun r h1 h2=>⟨_,.inl rfl,H r (hE.none h1) h2⟩
theorem Kq{t E s b:Nat}{z:Value}{zc:Array Value}(ho:o.op= .buildSlice t 0 #[])[TD x.P t (.slice E)][TI x.P E s b z zc]
  (H:∀β,x.h β=none→(∀o,(β,o)∉F)→R (.slice (some ⟨β,0,none⟩) 0 0) ((β,.cells #[] E (0,0))::F)):Ef x ρ o F R:=
 Ef.xW fun e he h' hE=>by
  have h1:¬0*s>2 ^ 24:=by omega
  have h2:0*s=0:=by omega
  simp only[execOp,ho,Instr.buildSlice,newRow,bind_eq,gq,bind_assoc,bind_pure,aC,dH,if_neg h1,if_pos h2,Array.map_empty,Instr.fill]
  refine wI fun r h1 h2=>⟨_,.inl rfl,?_⟩
  have e:(Array.range (0*s)).map ((#[]:Array Value)[· % (#[]:Array Value).size]!)= #[]:=by simp
  rw[e]
  exact H r (hE.none h1) h2

end rules
end Go.aS

/- Calls, results, append, and loops over functions. Conditions: none; over any program. -/
namespace Go.aS
section calls
variable{x:Cx}{ρ:Env}{F:eG}{o:Oper}{R:Value→eG→Prop}
theorem Gy{P:Program}{main:Side}{h:Hp}{f:FuncId}[FB P f]{args:Array Value}{R:Value→eG→Prop}(H:dV P main f args h F R):tr P h (callFunc f args) F (ni P main h R):=by
 obtain⟨fn,h1,h2,h3⟩:=FB.out (inferInstance:FB P f)
 simp only[callFunc,bind_eq,gq,l7,h1,h2,h3,Bool.false_eq_true,if_false]
 exact H

theorem QZ{f:FuncId}{args:List Operand}{ts:Array TypeId}{vs:List Value}{A:eG}{U:eG→eG}{R':Value→eG→Prop}(ho:o.op= .call ⟨.value (.func f),args.toArray,ts⟩)[FB x.P f](hv:evs ρ args=some vs)(hs:Seg A F U)
  (H:∀h',Ext x.h h'→fF (U []) h'→dV x.P x.main f vs.toArray h' A R') (K:∀v A',R' v A'→R v (U A')):Ef x ρ o F R:=fun e he=>
 ⟨A,U [],hs.perm.1,fun h' e1 e2=>by
  have e3:e (.func f)= .func (.func f) #[] #[]:=he _ _ rfl
  simp only[execOp,ho,resolve,Deferred.ofValue,e3,bind_eq,gq,bind_pure,invoke,List.map_toArray,lN he hv,List.append_toArray,List.nil_append,List.append_nil]
  exact Gy (dV.mono (H h' e1 e2) fun v A' r=>⟨U A',hs.perm.2 A',K v A' r⟩)⟩

theorem lQ{f:FuncId}{args:List Operand}{ts:Array TypeId}{vs:List Value}{R':Value→eG→Prop}(ho:o.op= .call ⟨.value (.func f),args.toArray,ts⟩)[FB x.P f](hv:evs ρ args=some vs)
  (H:∀h',Ext x.h h'→fF F h'→dV x.P x.main f vs.toArray h' [] R') (K:∀v A',R' v A'→R v (A'++F)):Ef x ρ o F R:=
 QZ ho hv (Seg.head (A:=[]) (G:=F)) H K

def gZ(P:Program)(main:Side)(fv:Value)(args:List Value)(h:Hp)(F:eG)(R:Value→eG→Prop):Prop:=
 ∃fn fi ca,fv= .func fn fi ca∧tr P h (invoke (.fn fn ca) (fi++args.toArray)) F (ni P main h R)

theorem gZ.mono{P:Program}{main:Side}{fv:Value}{args:List Value}{h:Hp}{R R':Value→eG→Prop}(H:gZ P main fv args h F R)(hr:∀v F,R v F→R' v F):gZ P main fv args h F R':=by
 obtain⟨fn,fi,ca,h1,h2⟩:=H
 exact⟨fn,fi,ca,h1,lM h2 fun _ _ y=>y.mono hr⟩

theorem gZ.zh{P:Program}{main:Side}{f:FuncId}[FB P f]{fi ca:List Value}{args:List Value}{h:Hp}{R:Value→eG→Prop}(H:dV P main f (fi++args++ca).toArray h F R):gZ P main (.func (.func f) fi.toArray ca.toArray) args h F R:=by
 refine⟨_,_,_,rfl,?_⟩
 simp only[invoke,List.append_toArray]
 exact Gy H

theorem tJ{y:Operand}{fv:Value}{args:List Operand}{ts:Array TypeId}{vs:List Value}{A:eG}{U:eG→eG}{R':Value→eG→Prop}(ho:o.op= .call ⟨.value y,args.toArray,ts⟩)(hy:ev ρ y=some fv)(hv:evs ρ args=some vs)(hs:Seg A F U)
  (H:∀h',Ext x.h h'→fF (U []) h'→gZ x.P x.main fv vs h' A R') (K:∀v A',R' v A'→R v (U A')):Ef x ρ o F R:=fun e he=>
 ⟨A,U [],hs.perm.1,fun h' e1 e2=>by
  obtain⟨fn,fi,ca,rfl,H'⟩:=H h' e1 e2
  simp only[execOp,ho,resolve,Deferred.ofValue,he y _ hy,bind_eq,gq,bind_pure,List.map_toArray,lN he hv]
  exact lM H' fun _ _ z=>z.mono fun v A' r=>⟨U A',hs.perm.2 A',K v A' r⟩⟩

class MV(P:Program)(t:TypeId)(name:String)(f:outParam FuncId):Prop where
 out:∀(h:Hp) (F:eG) (v:Value) (Q:FuncId×Value→eG→Prop),Q (f,v) F→tr P h (method (P.types.size+Made.depth) t v name) F Q

theorem aIZ{y:Operand}{name:String}{t:TypeId}{u:Value}{f:FuncId}{args:List Operand}{ts:Array TypeId}{vs:List Value}{A:eG}{U:eG→eG}{R':Value→eG→Prop}(ho:o.op= .call ⟨.invoke y name,args.toArray,ts⟩)(hy:ev ρ y=some (.iface t u))[mv:MV x.P t name f][FB x.P f](hv:evs ρ args=some vs)(hs:Seg A F U)
  (H:∀h',Ext x.h h'→fF (U []) h'→dV x.P x.main f (u::vs).toArray h' A R') (K:∀v A',R' v A'→R v (U A')):Ef x ρ o F R:=fun e he=>
 ⟨A,U [],hs.perm.1,fun h' e1 e2=>by
  have e3:((#[Value.iface t u]++vs.toArray)[0]? :Option Value)=some (.iface t u):=by simp
  have e4:(#[Value.iface t u]++vs.toArray).extract 1 (#[Value.iface t u]++vs.toArray).size=vs.toArray:=by
   apply Array.ext'
   simp
  simp only[execOp,ho,resolve,he y _ hy,bind_eq,gq,bind_pure,List.map_toArray,lN he hv,invoke,e3,e4,callMethod,l7]
  refine bJ (mv.out h' A u _ ?_)
  have e5: #[u]++vs.toArray=(u::vs).toArray:=by simp
  simp only[e5]
  exact Gy (dV.mono (H h' e1 e2) fun v A' r=>⟨U A',hs.perm.2 A',K v A' r⟩)⟩
end calls
/-! ### Results -/
def rD(P:Program)(h:Hp)(F:eG):List ResultVar→Env→List Value→Prop
 | [],_,vs=>vs=[]
 | .tmp t::r,ρ,vs=>∃v vs',vs=v::vs'∧look ρ t=some v∧rD P h F r ρ vs'
 | .cell a t::r,ρ,vs=>∃v vs' b off c E fz,vs=v::vs'∧look ρ a=some (.pointer (some ⟨b,off,none⟩))∧Look h F b (.cells c E fz)∧
   ((SC P t∧c[off]? =some v)∨(∃n,AG P t n∧off+n≤c.size∧v= .agg (c.extract off (off+n))))∧rD P h F r ρ vs'

def pack:List Value→Value
 | [v]=>v
 | vs=>.tuple vs.toArray

theorem uw{P:Program}{h:Hp}{F:eG}{t:TypeId}[SC P t]{b off:Nat}{c:Array Value}{E:TypeId}{fz:Nat×Nat}{u:Value}{Q:Value→eG→Prop}(hl:Look h F b (.cells c E fz))(hc:c[off]? =some u)(H:Q u F):tr P h (loadVar t ⟨b,off,none⟩) F Q:=by
 simp only[loadVar,bind_eq,gq,II,Bool.false_eq_true,if_false]
 exact MX hl hc H
theorem BM{P:Program}{h:Hp}{F:eG}{t n:Nat}[AG P t n]{b off:Nat}{c:Array Value}{E:TypeId}{fz:Nat×Nat}{Q:Value→eG→Prop}(hl:Look h F b (.cells c E fz))(hn:off+n≤c.size)(H:Q (.agg (c.extract off (off+n))) F):tr P h (loadVar t ⟨b,off,none⟩) F Q:=by
 simp only[loadVar,bind_eq,gq,Fv,if_true,o9,loadCells]
 refine bJ (gX hl n 0 #[] (by omega) ?_)
 simpa[tr]using H

def rd(tmps:Array Value):ResultVar→Sem Value
 | .tmp t=>.pure (tmps.getD t undef)
 | .cell a t=>(asAddr (tmps.getD a undef)).bind fun p=>loadVar t p
def Tq(vs:Array Value):Value:=if h:vs.size=1 then vs[0]else .tuple vs

theorem IQ(fn:Func)(tmps:Array Value):results fn tmps=(fn.results.mapM (m:=Sem) (rd tmps)).bind fun vs=>.pure (Tq vs):=by
 unfold results
 have:(fun x=>match x with | ResultVar.tmp t=>pure (tmps.getD t undef) | ResultVar.cell a t=>do let p←asAddr (tmps.getD a undef);loadVar t p)=rd tmps:=by
  funext r;cases r <;>rfl
 rw[←this]
 rfl

theorem Na{P:Program}{h:Hp}{F:eG}{ρ:Env}{tmps:Array Value}(he:dQ ρ tmps):∀{rs:List ResultVar} {vs:List Value} {Q:List Value→eG→Prop},rD P h F rs ρ vs→Q vs F→tr P h (rs.mapM (m:=Sem) (rd tmps)) F Q
 | [],vs,Q,h1,h2=>by simp only[rD]at h1;subst h1;exact h2
 | .tmp t::rs,vs,Q,h1,h2=>by
  obtain⟨v,vs',rfl,h3,h4⟩:=h1
  have e1:tmps.getD t undef=v:=by simp[he t v h3]
  simp only[List.mapM_cons,bind_eq,rd,e1,bind_pure]
  exact bJ (Na he h4 (by simpa[tr,gq]using h2))
 | .cell a t::rs,vs,Q,h1,h2=>by
  obtain⟨v,vs',b,off,c,E,fz,rfl,h3,h5,h6,h4⟩:=h1
  have e1:tmps.getD a undef= .pointer (some ⟨b,off,none⟩):=by simp[he a _ h3]
  simp only[List.mapM_cons,bind_eq,rd,e1,asAddr,gq,bind_pure]
  refine bJ ?_
  rcases h6 with⟨i1,i2⟩ | ⟨n,i1,i2,rfl⟩
  ·exact uw h5 i2 (bJ (Na he h4 (by simpa[tr]using h2)))
  ·exact BM h5 i2 (bJ (Na he h4 (by simpa[tr]using h2)))

theorem OU(vs:List Value):Tq vs.toArray=pack vs:=by
 match vs with
 | []=>rfl
 | [v]=>rfl
 | u::v::r=>
  have:¬((u::v::r).toArray.size=1):=by simp
  simp only[Tq,this,dif_neg,not_false_eq_true]
  rfl

theorem Q5{P:Program}{h:Hp}{F:eG}{fn:Func}{rs:List ResultVar}{ρ:Env}{vs:List Value}{R:Value→eG→Prop}(hr:fn.results=rs.toArray)(H:rD P h F rs ρ vs)(hR:R (pack vs) F):∀tmps,dQ ρ tmps→tr P h (results fn tmps) F R:=by
 intro tmps he
 rw[IQ,hr,List.mapM_toArray]
 simp only[map_eq_pure_bind,bind_eq,gq,bind_assoc,bind_pure]
 refine bJ (Na he H ?_)
 rw[OU]
 exact hR

theorem OV{P:Program}{main:Side}{fn:Func}{h:Hp}{R:Value→eG→Prop}{e:Exit}{ρ:Env}{F:eG}(he:e= .ret∨e= .normal){rs:List ResultVar}(hr:fn.results=rs.toArray){vs:List Value}(H:rD P h F rs ρ vs)(hR:R (pack vs) F):leave P main fn h R e ρ [] F:=
 ⟨he,Q5 hr H hR⟩

end Go.aS

/- The laws with their small premises filled in by themselves. Conditions: none; over any program. -/
namespace Go.aS
def cO:List Oper→Nat→Option Oper
 | [],_=>none
 | o::_,0=>some o
 | _::l,i+1=>cO l i
theorem AO:∀(l:List Oper) (i:Nat),cO l i=l[i]?
 | [],i=>by simp[cO]
 | o::l,0=>rfl
 | o::l,i+1=>by simp[cO,AO l i]
theorem aU{ops:Array Oper}{i:Nat}{o:Oper}(h:cO ops.toList i=some o):ops[i]? =some o:=by
 rw[AO]at h
 simpa using h

class MO(P:Program):Prop where
 out:P.follows .mixedOrders=true

section rules
variable{x:Cx}{Q:Post}{ρ:Env}{ds:List Deferred}{F:eG}{ops:Array Oper}{L:eG}{i:Nat}{rest:List Nat}{o:Oper}{v:Value}{R:Value→eG→Prop}{d:Tmp}{op:Op}{ty:TypeId}{pos:String}{bK:Array Edge}{g:Option (Nat×Bool)}{K:Env→List Deferred→eG→Prop}
theorem aA(H:K ρ ds F):thn K Q .normal ρ ds F:=H
theorem bP{id:Nat}(H:Q (.exit id) ρ ds F):thn K Q (.exit id) ρ ds F:=H
theorem aY(H:Q .ret ρ ds F):thn K Q .ret ρ ds F:=H
theorem WC{l:Nat}(H:Q (.goto l) ρ ds F):thn K Q (.goto l) ρ ds F:=H
theorem dI{id:Nat}(H:Q .normal ρ ds F):blk id Q .normal ρ ds F:=H
theorem cZ{id:Nat}(H:Q .ret ρ ds F):blk id Q .ret ρ ds F:=H
theorem aaM{id l:Nat}(H:Q (.goto l) ρ ds F):blk id Q (.goto l) ρ ds F:=H
theorem gG{id id':Nat}(H:Q .normal ρ ds F)(h:Nat.beq id' id=true:=by rfl):blk id Q (.exit id') ρ ds F:=by simp only[blk,h,cond_true];exact H
theorem Tt{id id':Nat}(H:Q (.exit id') ρ ds F)(h:Nat.beq id' id=false:=by rfl):blk id Q (.exit id') ρ ds F:=by simp only[blk,h,cond_false];exact H

theorem W.dW{c:Operand}{y z:Code}(H:W x y Q ρ ds F)(h:ev ρ c=some (.bool true):=by rfl):W x (.cond c y z) Q ρ ds F:=W.cond h (fun _=>H) (fun e=>by cases e)
theorem W.bZ{c:Operand}{y z:Code}(H:W x z Q ρ ds F)(h:ev ρ c=some (.bool false):=by rfl):W x (.cond c y z) Q ρ ds F:=W.cond h (fun e=>by cases e) (fun _=>H)

theorem qP{o:Oper}(h:o.guard=none):want ops ρ o:=by simp[want,h]
theorem ak{o:Oper}{j d:Nat}{w:Bool}(h:o.guard=some (j,w))(hj:(ops[j]?).bind (·.dst)=some d)(hd:look ρ d=some (.bool w)):want ops ρ o:=by simp only[want,h];exact⟨d,hj,hd⟩
theorem b_{o:Oper}{j d:Nat}{w v u:Bool}(h:o.guard=some (j,w))(hj:(ops[j]?).bind (·.dst)=some d)(hd:look ρ d=some (.bool v))(hu:(v==w)=u):dR ops (look ρ) o u:=by simp only[dR,h];exact⟨d,.bool v,hj,hd,.inl ⟨v,rfl,hu⟩⟩
theorem Ops.st(H:Ops x ops rest Q ((d,v)::ρ) ds F)(ho:cO ops.toList i=some ⟨some d,op,ty,pos,bK,g⟩:=by rfl)(hw:want ops ρ ⟨some d,op,ty,pos,bK,g⟩:=by first | exact qP rfl | exact ak rfl rfl rfl)(hd:Nat.blt d x.n=true:=by rfl)(hn:QS op=true:=by rfl)
  (
   hy:Yv x (· =F) ρ ⟨some d,op,ty,pos,bK,g⟩ v:=by
   first
   | exact aN rfl rfl
   | exact jS rfl rfl
   | exact ay rfl rfl
   | exact Wp rfl rfl (by first | exact .inl (by assumption) | exact .inr (fun _ e=>by subst e;first | exact .head _ | exact .tail _ (.head _) | exact .tail _ (.tail _ (.head _)) | (repeat(first | exact List.Mem.head _ | apply List.Mem.tail)))) (by first | assumption | rfl)
   | exact Ih rfl rfl (by first | exact .inl (by assumption) | exact .inr (fun _ e=>by subst e;first | exact .head _ | exact .tail _ (.head _) | exact .tail _ (.tail _ (.head _)) | (repeat(first | exact List.Mem.head _ | apply List.Mem.tail)))) (by first | assumption | decide | omega) (by first | assumption | rfl)
   | exact DK rfl rfl rfl (by first | assumption | omega)
   | exact BL rfl rfl rfl (by first | assumption | omega)
   | exact aBv rfl rfl rfl (by first | assumption | omega) (by first | assumption | omega)
   | exact DL rfl rfl rfl (by first | assumption | omega) (by first | assumption | omega)
   | exact dM rfl rfl
   | exact fO rfl rfl rfl | exact Lr rfl rfl rfl | exact rC rfl rfl rfl | exact IJ rfl rfl rfl | exact nD rfl rfl rfl | exact nG rfl rfl rfl
   | exact aaI rfl rfl rfl (by omega) (by omega) | exact aaJ rfl rfl rfl (by omega) (by omega) | exact MZ rfl rfl rfl | exact M_ rfl rfl rfl | exact Fz rfl rfl rfl
   | exact bD rfl rfl rfl | exact xU rfl rfl | exact dG rfl rfl rfl | exact iH rfl rfl rfl | exact bg rfl rfl | exact aT rfl rfl
   | exact ayq rfl rfl rfl | exact Tj rfl (by intro _ h;cases h) rfl | exact eH rfl rfl rfl | exact Zh rfl rfl rfl | exact Wq rfl rfl rfl
   | exact Ti rfl rfl rfl (by omega) (by omega) (by first | assumption | rfl) | exact Ws rfl rfl rfl (by omega) (by omega) (by first | assumption | rfl)
   | exact Tm rfl rfl rfl | exact y8 rfl rfl rfl | exact acK rfl rfl | exact FC rfl rfl | exact acJ rfl rfl (by omega) (by omega)
   | exact acI rfl rfl rfl | exact aaK rfl rfl rfl | exact Gx rfl rfl rfl | exact OL rfl rfl rfl | exact Wx rfl rfl rfl (by omega) | exact Gw rfl rfl rfl (by omega) | exact Wu rfl rfl rfl (by omega) | exact acH rfl rfl rfl (by omega)):Ops x ops (i::rest) Q ρ ds F:=
 Ops.quiet (o:=⟨some d,op,ty,pos,bK,g⟩) H (aU ho) hw hd hn hy

theorem Ops.no{j d':Nat}{w v:Bool}(H:Ops x ops rest Q ((d,undef)::ρ) ds F)(ho:cO ops.toList i=some ⟨some d,op,ty,pos,bK,some (j,w)⟩:=by rfl)(hj:(cO ops.toList j).bind (·.dst)=some d':=by rfl)(hv:look ρ d'=some (.bool v):=by rfl)(hne:(v==w)=false:=by rfl)(hd:Nat.blt d x.n=true:=by rfl):Ops x ops (i::rest) Q ρ ds F:=
 Ops.unwanted (aU ho) rfl (by rw[AO]at hj;simpa using hj) hv hne hd H

theorem Ops.ask{j d':Nat}{w:Bool}{p:Prop}[Decidable p]{D:Option Tmp}(ht:p→Ops x ops (i::rest) Q ((d',.bool true)::ρ) ds F)(hf:¬p→Ops x ops (i::rest) Q ((d',.bool false)::ρ) ds F)(ho:cO ops.toList i=some ⟨D,op,ty,pos,bK,some (j,w)⟩:=by rfl)(hj:(cO ops.toList j).bind (·.dst)=some d':=by rfl)(hv:look ρ d'=some (.bool (decide p)):=by rfl):Ops x ops (i::rest) Q ρ ds F:=by
 have key:∀u:Bool,decide p=u→Ops x ops (i::rest) Q ((d',.bool u)::ρ) ds F→Ops x ops (i::rest) Q ρ ds F:=by
  intro u hu H b k cs Stop tmps hk M h1 h0 h2 h3 h4 h5 hc
  refine H b k cs Stop tmps hk M h1 h0 h2 (fun t y hy=>?_) h4 h5 hc
  unfold look at hy
  cases e:Nat.beq t d' with
  | true=>
   rw[e]at hy
   simp only[cond_true,Option.some.injEq]at hy
   subst hy
   rw[Nat.eq_of_beq_eq_true e]
   rw[←hu]
   exact h3 d' _ hv
  | false=>rw[e]at hy;exact h3 t y hy
 by_cases hp:p
 ·exact key true (by simp[hp]) (ht hp)
 ·exact key false (by simp[hp]) (hf hp)

theorem Ops.new{t s b:Nat}{z:Value}{zc:Array Value}(H:∀β,Ops x ops rest Q ((d,.pointer (some ⟨β,0,none⟩))::ρ) ds ((β,.cells zc t (0,0))::F))(ho:cO ops.toList i=some ⟨some d,.alloc t,ty,pos,bK,g⟩:=by rfl)[TI x.P t s b z zc](hw:want ops ρ ⟨some d,.alloc t,ty,pos,bK,g⟩:=by first | exact qP rfl | exact ak rfl rfl rfl)(hd:Nat.blt d x.n=true:=by rfl):Ops x ops (i::rest) Q ρ ds F:=
 Ops.eff (o:=⟨some d,.alloc t,ty,pos,bK,g⟩) (wJ rfl fun β _ _=>H β) (aU ho) hw hd rfl
theorem Ops.box{t:TypeId}{y:Operand}{u:Value}{cs:Array Value}(H:∀β,Ops x ops rest Q ((d,.pointer (some ⟨β,0,none⟩))::ρ) ds ((β,.cells cs t (0,0))::F))(ho:cO ops.toList i=some ⟨some d,.box t y,ty,pos,bK,g⟩:=by rfl)(hy:ev ρ y=some u:=by rfl)(hc:u.cells=cs:=by rfl)(hw:want ops ρ ⟨some d,.box t y,ty,pos,bK,g⟩:=by first | exact qP rfl | exact ak rfl rfl rfl)(hd:Nat.blt d x.n=true:=by rfl):Ops x ops (i::rest) Q ρ ds F:=
 Ops.eff (o:=⟨some d,.box t y,ty,pos,bK,g⟩) (aaL rfl hy hc fun β _ _=>H β) (aU ho) hw hd rfl
theorem Ops.yG{t b':Nat}{z:Value}{zc:Array Value}{a y:Operand}{b off:Nat}{c:Array Value}{E:TypeId}{U:Obj→eG}{u:Value}(H:Ops x ops rest Q ρ ds (U (.cells (c.setIfInBounds off u) E (0,0))))(ho:cO ops.toList i=some ⟨none,.store t a y,ty,pos,bK,g⟩:=by rfl)[TI x.P t 1 b' z zc]
  (ha:ev ρ a=some (.pointer (some ⟨b,off,none⟩)):=by rfl) (hy:ev ρ y=some u:=by rfl) (h1:one u=true:=by rfl) (hl:At b (.cells c E (0,0)) F U:=by repeat(first | exact At.head | apply At.tail | apply At.app)) (hc:off<c.size:=by first | assumption | decide | omega | (simp;done)) (hw:want ops ρ ⟨none,.store t a y,ty,pos,bK,g⟩:=by first | exact qP rfl | exact ak rfl rfl rfl):Ops x ops (i::rest) Q ρ ds F:=
 Ops.eff (o:=⟨none,.store t a y,ty,pos,bK,g⟩) (Tn (s:=1) rfl ha hy h1 hl hc H) (aU ho) hw rfl rfl
theorem Ops.jP{t n:Nat}{a y:Operand}{b:Nat}{c vs:Array Value}{E:TypeId}{U:Obj→eG}(H:Ops x ops rest Q ρ ds (U (.cells vs E (0,0))))(ho:cO ops.toList i=some ⟨none,.store t a y,ty,pos,bK,g⟩:=by rfl)[AG x.P t n]
  (ha:ev ρ a=some (.pointer (some ⟨b,0,none⟩)):=by rfl) (hy:ev ρ y=some (.agg vs):=by rfl) (hn:vs.size=n:=by first | assumption | rfl) (h1:ones vs.toList=true:=by first | assumption | rfl) (hl:At b (.cells c E (0,0)) F U:=by repeat(first | exact At.head | apply At.tail | apply At.app)) (hc:c.size=n:=by first | assumption | rfl) (hw:want ops ρ ⟨none,.store t a y,ty,pos,bK,g⟩:=by first | exact qP rfl | exact ak rfl rfl rfl):Ops x ops (i::rest) Q ρ ds F:=
 Ops.eff (o:=⟨none,.store t a y,ty,pos,bK,g⟩) (OT rfl ha hy hn h1 hl hc H) (aU ho) hw rfl rfl
theorem Ops.nY{t n:Nat}{a y:Operand}{b off:Nat}{c vs:Array Value}{E:TypeId}{U:Obj→eG}(H:Ops x ops rest Q ρ ds (U (.cells (jv c off vs.toList) E (0,0))))(ho:cO ops.toList i=some ⟨none,.store t a y,ty,pos,bK,g⟩:=by rfl)[AG x.P t n]
  (ha:ev ρ a=some (.pointer (some ⟨b,off,none⟩)):=by rfl) (hy:ev ρ y=some (.agg vs):=by rfl) (hn:vs.size=n:=by first | assumption | rfl) (h1:ones vs.toList=true:=by first | assumption | rfl) (hl:At b (.cells c E (0,0)) F U:=by repeat(first | exact At.head | apply At.tail | apply At.app)) (hc:off+n≤c.size:=by first | assumption | decide | omega) (hw:want ops ρ ⟨none,.store t a y,ty,pos,bK,g⟩:=by first | exact qP rfl | exact ak rfl rfl rfl):Ops x ops (i::rest) Q ρ ds F:=
 Ops.eff (o:=⟨none,.store t a y,ty,pos,bK,g⟩) (OQ rfl ha hy hn h1 hl hc H) (aU ho) hw rfl rfl

theorem go{A B:Prop}(b:B)(h:B→A:=by
  first
  | exact Ops.st
  | exact Ops.nil
  | exact aA | exact dI
  | exact W.seq
  | exact W.region rfl
  | exact Ops.yG | exact Ops.jP | exact Ops.nY
  | exact Ops.no
  | exact W.block
  | exact W.dW | exact W.bZ
  | exact W.skip | exact W.exit | exact W.ret | exact bP | exact aY | exact cZ | exact gG | exact Tt | exact WC | exact aaM | exact W.goto | exact W.label):A:=h b
end rules
end Go.aS

/- Short forms of the laws, for scripts. Conditions: none; over any program. -/
namespace Go.aS
section rules
variable{x:Cx}{Q:Post}{ρ:Env}{ds:List Deferred}{F:eG}{ops:Array Oper}{S:eG→Prop}{L:eG}{i:Nat}{rest:List Nat}{o:Oper}{v:Value}{R:Value→eG→Prop}{d:Tmp}{op:Op}{ty:TypeId}{pos:String}{bK:Array Edge}{g:Option (Nat×Bool)}{K:Env→List Deferred→eG→Prop}
theorem wn{D:Option Tmp}:want ops ρ ⟨D,op,ty,pos,bK,none⟩:=trivial
theorem an{D:Option Tmp}:dR ops (look ρ) ⟨D,op,ty,pos,bK,none⟩ true:=rfl

theorem Keeps.refl:Keeps F F:=fun _ h=>h
theorem Keeps.nil:Keeps [] F:=fun _ h=>absurd h List.not_mem_nil
theorem Keeps.one{y:Nat×Obj}(hy:y∈F)(h:Keeps L F):Keeps (y::L) F:=fun p hp=>by
 rcases List.mem_cons.1 hp with rfl | hp
 ·exact hy
 ·exact h p hp
theorem Keeps.cons{y:Nat×Obj}(h:Keeps L F):Keeps L (y::F):=fun p hp=>List.mem_cons_of_mem _ (h p hp)
theorem Keeps.app{A:eG}(h:Keeps L F):Keeps L (A++F):=fun p hp=>List.mem_append_right _ (h p hp)

theorem oq(hy:Yv x (· =F) ρ ⟨some d,op,ty,pos,bK,g⟩ v)(ho:cO ops.toList i=some ⟨some d,op,ty,pos,bK,g⟩)(hw:want ops ρ ⟨some d,op,ty,pos,bK,g⟩)(hd:Nat.blt d x.n=true)(hn:QS op=true)(H:Ops x ops rest Q ((d,v)::ρ) ds F):Ops x ops (i::rest) Q ρ ds F:=
 Ops.quiet (o:=⟨some d,op,ty,pos,bK,g⟩) H (aU ho) hw hd hn hy
theorem aq{fuel listed:Nat}(hy:Yv x (Keeps L) ρ ⟨some d,op,ty,pos,bK,g⟩ v)(ho:cO ops.toList i=some ⟨some d,op,ty,pos,bK,g⟩)(hw:dR ops (look ρ) ⟨some d,op,ty,pos,bK,g⟩ true)(hd:Nat.blt d x.n=true)(hn:QS op=true)(H:Any x ops L fuel (listed||| 2 ^ i) Q ((d,v)::ρ) ds F)(hr:(Fq ops listed i&&xR ops listed i&&DJ ops)=true:=by kernel_rfl)(hS:Keeps L F:=by first | exact fun _ h=>h | exact fun _ h=>absurd h List.not_mem_nil | ((repeat(first | exact fun _ h=>h | apply Keeps.cons | apply Keeps.app)) <;>fail) | (repeat(first | exact Keeps.nil | refine Keeps.one (by repeat(first | exact List.Mem.head _ | apply List.Mem.tail)) ?_))):Any x ops L (fuel+1) listed Q ρ ds F:=by
 simp only[Bool.and_eq_true]at hr
 exact Any.quiet (o:=⟨some d,op,ty,pos,bK,g⟩) H hr.1.1 hr.1.2 (aU ho) hr.2 hw hd hn hS hy
theorem ap{fuel listed j d':Nat}{w u:Bool}(ho:cO ops.toList i=some ⟨some d,op,ty,pos,bK,some (j,w)⟩)(hj:(cO ops.toList j).bind (·.dst)=some d')(hv:look ρ d'=some (.bool u))(hne:(u==w)=false)(hd:Nat.blt d x.n=true)(hn:QS op=true)(H:Any x ops L fuel (listed||| 2 ^ i) Q ((d,undef)::ρ) ds F)(hr:(Fq ops listed i&&xR ops listed i&&DJ ops)=true:=by kernel_rfl)(hS:Keeps L F:=by first | exact fun _ h=>h | exact fun _ h=>absurd h List.not_mem_nil | ((repeat(first | exact fun _ h=>h | apply Keeps.cons | apply Keeps.app)) <;>fail) | (repeat(first | exact Keeps.nil | refine Keeps.one (by repeat(first | exact List.Mem.head _ | apply List.Mem.tail)) ?_))):Any x ops L (fuel+1) listed Q ρ ds F:=by
 simp only[Bool.and_eq_true]at hr
 exact Any.pass (o:=⟨some d,op,ty,pos,bK,some (j,w)⟩) H hr.1.1 hr.1.2 (aU ho) hr.2 (b_ rfl (by rw[AO]at hj;simpa using hj) hv hne) hd hn hS
theorem oe{D:Option Tmp}(ho:cO ops.toList i=some ⟨D,op,ty,pos,bK,g⟩)(hw:want ops ρ ⟨D,op,ty,pos,bK,g⟩)(hd:d_ D x.n=true)(hn:QS op=true)(H:Ef x ρ ⟨D,op,ty,pos,bK,g⟩ F fun v F'=>Ops x ops rest Q (put ρ D v) ds F'):Ops x ops (i::rest) Q ρ ds F:=
 Ops.eff (o:=⟨D,op,ty,pos,bK,g⟩) H (aU ho) hw hd hn
theorem ae{fuel listed:Nat}{D:Option Tmp}(ho:cO ops.toList i=some ⟨D,op,ty,pos,bK,g⟩)(hw:dR ops (look ρ) ⟨D,op,ty,pos,bK,g⟩ true)(hd:d_ D x.n=true)(hn:QS op=true)(H:Ef x ρ ⟨D,op,ty,pos,bK,g⟩ F fun v F'=>(lastT ops i=true∨Keeps L F')∧Any x ops L fuel (listed||| 2 ^ i) Q (put ρ D v) ds F')(hr:qx ops listed=[i]:=by kernel_rfl):
  Any x ops L (fuel+1) listed Q ρ ds F:=Any.eff (o:=⟨D,op,ty,pos,bK,g⟩) H hr (aU ho) hw hd hn
theorem az{fuel listed:Nat}(H:Q .normal ρ ds F)(hr:qx ops listed=[]:=by kernel_rfl):Any x ops L fuel listed Q ρ ds F:=Any.done hr H
theorem W.rE{id n:Nat}(hn:ops.size=n)(H:Any x ops F n 0 Q ρ ds F)[MO x.P]:W x (.region id ops true) Q ρ ds F:=W.draw MO.out F (hn▸H)
theorem W.DR{id n:Nat}(L:eG)(hn:ops.size=n)(H:Any x ops L n 0 Q ρ ds F)[MO x.P]:W x (.region id ops true) Q ρ ds F:=W.draw MO.out L (hn▸H)

theorem gs{A B:Prop}(b:B)(h:B→A:=by
  first
  | exact aA | exact dI
  | exact W.seq
  | exact Ops.nil | exact az
  | exact W.block
  | exact W.skip | exact W.exit | exact W.ret | exact bP | exact aY | exact cZ | exact gG | exact Tt | exact WC | exact aaM | exact W.goto | exact W.label):A:=h b

theorem lk{t:Nat}{u:Value}(h:look ρ t=some v)(e:v=u):look ρ t=some u:=e▸h

/-! ### Short forms of the laws that want a look at memory or a reckoning -/
theorem iQ{t:TypeId}{a:Operand}{b off:Nat}{c:Array Value}{E:TypeId}{fz:Nat×Nat}(ho:o.op= .load t a)[SC x.P t](ha:ev ρ a=some (.pointer (some ⟨b,off,none⟩)))
  (hl:Gv x.h S b (.cells c E fz):=by first | exact .inl (by assumption) | exact .inr (fun _ e=>by subst e;first | exact .head _ | exact .tail _ (.head _) | exact .tail _ (.tail _ (.head _)) | (repeat(first | exact List.Mem.head _ | apply List.Mem.tail))) | exact .inr (fun _ e=>e _ (by first | exact .head _ | exact .tail _ (.head _) | exact .tail _ (.tail _ (.head _)) | (repeat(first | exact List.Mem.head _ | apply List.Mem.tail)))))
  (hc:c[off]? =some v:=by first | assumption | rfl):Yv x S ρ o v:=Wp ho ha hl hc
theorem zi{t n:Nat}{a:Operand}{b off:Nat}{c vs:Array Value}{E:TypeId}{fz:Nat×Nat}(ho:o.op= .load t a)[AG x.P t n](ha:ev ρ a=some (.pointer (some ⟨b,off,none⟩)))
  (hl:Gv x.h S b (.cells c E fz):=by first | exact .inl (by assumption) | exact .inr (fun _ e=>by subst e;first | exact .head _ | exact .tail _ (.head _) | exact .tail _ (.tail _ (.head _)) | (repeat(first | exact List.Mem.head _ | apply List.Mem.tail))) | exact .inr (fun _ e=>e _ (by first | exact .head _ | exact .tail _ (.head _) | exact .tail _ (.tail _ (.head _)) | (repeat(first | exact List.Mem.head _ | apply List.Mem.tail)))))
  (hn:off+n≤c.size:=by first | assumption | exact Nat.le_of_ble_eq_true rfl | decide | omega) (hv:c.extract off (off+n)=vs:=by first | assumption | rfl):Yv x S ρ o (.agg vs):=Ih ho ha hl hn hv
theorem Bf{t n:Nat}{a:Operand}{b:Nat}{c:Array Value}{E:TypeId}{fz:Nat×Nat}(ho:o.op= .load t a)[AG x.P t n](ha:ev ρ a=some (.pointer (some ⟨b,0,none⟩)))
  (hl:Gv x.h S b (.cells c E fz):=by first | exact .inl (by assumption) | exact .inr (fun _ e=>by subst e;first | exact .head _ | exact .tail _ (.head _) | exact .tail _ (.tail _ (.head _)) | (repeat(first | exact List.Mem.head _ | apply List.Mem.tail))) | exact .inr (fun _ e=>e _ (by first | exact .head _ | exact .tail _ (.head _) | exact .tail _ (.tail _ (.head _)) | (repeat(first | exact List.Mem.head _ | apply List.Mem.tail)))))
  (hn:c.size=n:=by first | assumption | rfl):Yv x S ρ o (.agg c):=Ih ho ha hl (by omega) (by apply Array.ext';simp[←hn])
theorem G_{t E s by':Nat}{z:Value}{zc:Array Value}{a ix:Operand}{b off len cap:Nat}{k:IntKind}{n:Nat}(ho:o.op= .indexAddr t a ix)[TD x.P t (.slice E)][TI x.P E s by' z zc](ha:ev ρ a=some (.slice (some ⟨b,off,none⟩) len cap))(hi:ev ρ ix=some (.int k (n:Int)))(h1:n<len:=by first | assumption | omega):
  Yv x S ρ o (.pointer (some ⟨b,off+n*s,none⟩)):=DK ho ha hi h1
theorem UN{t E s by' m:Nat}{z:Value}{zc:Array Value}{a ix:Operand}{b off:Nat}{k:IntKind}{n:Nat}(ho:o.op= .indexAddr t a ix)[TD x.P t (.array m E)][TI x.P E s by' z zc](ha:ev ρ a=some (.pointer (some ⟨b,off,none⟩)))(hi:ev ρ ix=some (.int k (n:Int)))(h1:n<m:=by first | assumption | omega):
  Yv x S ρ o (.pointer (some ⟨b,off+n*s,none⟩)):=BL ho ha hi h1
theorem o_{t E s by':Nat}{z:Value}{zc:Array Value}{a ix:Operand}{b off len cap:Nat}{k:IntKind}{n:Int}(ho:o.op= .indexAddr t a ix)[TD x.P t (.slice E)][TI x.P E s by' z zc](ha:ev ρ a=some (.slice (some ⟨b,off,none⟩) len cap))(hi:ev ρ ix=some (.int k n))(h0:0≤n:=by first | assumption | omega)(h1:n<len:=by first | assumption | omega):
  Yv x S ρ o (.pointer (some ⟨b,off+n.toNat*s,none⟩)):=aBv ho ha hi h0 h1
theorem Qg{t E s by' m:Nat}{z:Value}{zc:Array Value}{a ix:Operand}{b off:Nat}{k:IntKind}{n:Int}(ho:o.op= .indexAddr t a ix)[TD x.P t (.array m E)][TI x.P E s by' z zc](ha:ev ρ a=some (.pointer (some ⟨b,off,none⟩)))(hi:ev ρ ix=some (.int k n))(h0:0≤n:=by first | assumption | omega)(h1:n<m:=by first | assumption | omega):
  Yv x S ρ o (.pointer (some ⟨b,off+n.toNat*s,none⟩)):=DL ho ha hi h0 h1
theorem Zi{t t':TypeId}{y z:Operand}{a b:Int}(ho:o.op= .binOp .add t y z t')(hy:ev ρ y=some (.int .i64 a))(hz:ev ρ z=some (.int .i64 b))(h0: -9223372036854775808≤a+b:=by omega)(h1:a+b≤9223372036854775807:=by omega):Yv x S ρ o (.int .i64 (a+b)):=aaI ho hy hz h0 h1
theorem acL{t t':TypeId}{y z:Operand}{a b:Int}(ho:o.op= .binOp .sub t y z t')(hy:ev ρ y=some (.int .i64 a))(hz:ev ρ z=some (.int .i64 b))(h0: -9223372036854775808≤a-b:=by omega)(h1:a-b≤9223372036854775807:=by omega):Yv x S ρ o (.int .i64 (a-b)):=aaJ ho hy hz h0 h1
theorem aaC{t t':TypeId}{y z:Operand}{a b:Int}(ho:o.op= .binOp .mul t y z t')(hy:ev ρ y=some (.int .i64 a))(hz:ev ρ z=some (.int .i64 b))(h0: -9223372036854775808≤a*b:=by first | assumption | omega)(h1:a*b≤9223372036854775807:=by first | assumption | omega):Yv x S ρ o (.int .i64 (a*b)):=aLL ho hy hz h0 h1
theorem eS{t b':Nat}{z:Value}{zc:Array Value}{a y:Operand}{b off:Nat}{c:Array Value}{E:TypeId}{U:Obj→eG}{u:Value}(ho:o.op= .store t a y)[TI x.P t 1 b' z zc](ha:ev ρ a=some (.pointer (some ⟨b,off,none⟩)))(hy:ev ρ y=some u)
  (H:R undef (U (.cells (c.setIfInBounds off u) E (0,0)))) (h1:one u=true:=by first | rfl | assumption) (hl:At b (.cells c E (0,0)) F U:=by repeat(first | exact At.head | apply At.tail | apply At.app)) (hc:off<c.size:=by first | assumption | decide | omega | (simp;done)):Ef x ρ o F R:=Tn (s:=1) ho ha hy h1 hl hc H
theorem eSA{t n:Nat}{a y:Operand}{b off:Nat}{c vs:Array Value}{E:TypeId}{U:Obj→eG}(ho:o.op= .store t a y)[AG x.P t n](ha:ev ρ a=some (.pointer (some ⟨b,off,none⟩)))(hy:ev ρ y=some (.agg vs))
  (H:R undef (U (.cells (jv c off vs.toList) E (0,0)))) (hn:vs.size=n:=by first | assumption | rfl) (h1:ones vs.toList=true:=by first | assumption | rfl) (hl:At b (.cells c E (0,0)) F U:=by repeat(first | exact At.head | apply At.tail | apply At.app)) (hc:off+n≤c.size:=by first | assumption | exact Nat.le_of_ble_eq_true rfl | decide | omega):Ef x ρ o F R:=OQ ho ha hy hn h1 hl hc H
theorem eSW{t n:Nat}{a y:Operand}{b:Nat}{c vs:Array Value}{E:TypeId}{U:Obj→eG}(ho:o.op= .store t a y)[AG x.P t n](ha:ev ρ a=some (.pointer (some ⟨b,0,none⟩)))(hy:ev ρ y=some (.agg vs))
  (H:R undef (U (.cells vs E (0,0)))) (hn:vs.size=n:=by first | assumption | rfl) (h1:ones vs.toList=true:=by first | assumption | rfl) (hl:At b (.cells c E (0,0)) F U:=by repeat(first | exact At.head | apply At.tail | apply At.app)) (hc:c.size=n:=by first | assumption | rfl):Ef x ρ o F R:=OT ho ha hy hn h1 hl hc H
theorem eN{t s b:Nat}{z:Value}{zc:Array Value}(ho:o.op= .alloc t)[TI x.P t s b z zc](H:∀β,R (.pointer (some ⟨β,0,none⟩)) ((β,.cells zc t (0,0))::F)):Ef x ρ o F R:=wJ ho fun β _ _=>H β
end rules
end Go.aS

/- Loops over functions. Conditions: none; over any program. -/
namespace Go.aS
theorem W.frame{x:Cx}{c:Code}{Q:Post}{ρ:Env}{ds:List Deferred}{A B:eG}(H:∀h',Ext x.h h'→fF B h'→W {x with h:=h'} c Q ρ ds A):
  W x c (fun e ρ ds F'=>∃A',Q e ρ ds A'∧F'=A'++B) ρ ds (A++B):=by
 intro b k cs Stop tmps hk M h1 h0 h2 h3 h4 h5 hc
 obtain⟨S1,e1,e2⟩:=h5.lend
 refine H _ e1 e2 b k cs Stop tmps hk M h1 h0 h2 h3 h4 S1 fun e ρ' ds' A' aZ hk' M' q a1 a2 a3 a4=>?_
 obtain⟨a,b⟩:=h5.back a3 a4
 exact hc e ρ' ds' _ aZ hk' M' ⟨A',q,rfl⟩ a1 a2 a b

/-! ### The step into a loop over a function, and out of it -/
section steps
variable{P:Program}{main:Side}{b:Frame}{t:Array Value}{ds:List Deferred}{k:List Item}{cs:List Frame}{w w₁ w₂:World}
def IU(f:Operand)(l:Nat):Call:={callee:=.value f,args:= #[.const (.func (.yield l) #[] #[])],argTypes:= #[]}

theorem DT{es es':Array Event}{g:Goroutine}{w:World}:GStep.after es (.go g w es')= .go g w (es++es'):=rfl

theorem Nb{f:Operand}{params:Array Tmp}{us bd:Code}{l:Nat}{mark:List Deferred}{es:Array Event}(hr:(Instr.enterLoop b.fn t params us bd b.roundOf).runT P w #[]=(.ok (l,mark) w₁,es)):
  stepG P main.b (G (bW b t ds (.code (.rangeFunc f params us bd)::k)) cs) w=
   GStep.after (seen P b.fn es) (stepG.apply P true (bW b t (mark++ds) (.inRangeFunc l::k)) cs none ((resolve (bW b t (mark++ds) (.inRangeFunc l::k)).eval (IU f l) 0).bind fun d=>invoke d.target d.args) w₁):=by
 simp only[Conc.G,stepG,stepG.exec,bW,hr]
 rfl

theorem He{l:Nat}{jump:Option Code}{es:Array Event}(hr:(Instr.endLoop l).runT P w #[]=(.ok jump w₁,es)):
  stepG P main.b (G (bW b t ds (.endRangeFunc l::k)) cs) w= .go (G (bW b t ds ((jump.map Item.code).toList++k)) cs) w₁ (seen P b.fn es):=by
 simp only[Conc.G,stepG,stepG.exec,bW,hr]
 rfl

theorem Nc{fr:Frame}{s:Sem Next}{w w':World}{f:FuncId}{args:Array Value}{es:Array Event}(r:s.runT P w #[]=(.ok (.enter f args) w',es))(hk:(fr.kind==CallKind.early)=false)
  (ht:∃l k,fr.todo= .inRangeFunc l::k):stepG.apply P true fr cs none s w= .go (G (Frame.enter P f args .normal) (fr::cs)) w' (seen P fr.fn es):=by
 obtain⟨l,k,ht⟩:=ht
 unfold stepG.apply
 simp only[r,hk,if_true,ht]
 rfl

end steps
def mark(d:Nat):Deferred:={target:=.collected d,args:= #[]}

theorem dX.seq{k:Hp}{M:Nat→Prop}{w w₁ w₂:World}{es es':Array Event}(h1:dX k M w w₁ es)(h2:dX (snap k w w₁) (grown M w w₁) w₁ w₂ es'):dX k M w w₂ (es++es'):=h1.trans h2

theorem W.rangeFunc{x:Cx}{Q:Post}{ρ:Env}{ds:List Deferred}{F:eG}{f:Operand}{params:Array Tmp}{us bd:Code}{fv:Value}(hf:ev ρ f=some fv)(hro:x.ro=none)
  (
   H:∀tmps,dQ ρ tmps→tmps.size=x.n→∀l d,∃A B R',(A++B).Perm ((l,.loop {state:=.ready,pending:=none,fn:=x.fn,tmps,params,assign:=us,body:=bd,defers:=d})::(d,.deferred (some []))::F)∧
   (∀h',Ext x.h h'→fF B h'→gZ x.P x.main fv [.func (.yield l) #[] #[]] h' A R')∧
   (∀v A',R' v A'→∃A₁,Sb A₁ A'∧tr x.P x.h (Instr.endLoop l) (A₁++B) fun jump QN=>match jump with | none=>∃UJ,Sb UJ QN∧Q .normal ρ (mark d::ds) UJ | some c=>W x c Q ρ (mark d::ds) QN)):W x (.rangeFunc f params us bd) Q ρ ds F:=by
 intro b k cs Stop tmps hk M h1 h0 h2 h3 h4 h5 hc
 have hk':(b.kind==CallKind.early)=false:=by simpa using h2.1
 refine .oN ⟨rfl,fun w hw hM=>?_⟩
 
 have htr:tr x.P x.h (Instr.enterLoop b.fn tmps params us bd b.roundOf) F fun lm qp=>∃d,lm.2=[mark d]∧qp=(lm.1,.loop {state:=.ready,pending:=none,fn:=x.fn,tmps,params,assign:=us,body:=bd,defers:=d})::(d,.deferred (some []))::F:=by
  rw[h0,hro,h1]
  refine⟨fun e=>(by cases e),fun d _ _=>⟨fun e=>(by cases e),fun l _ _=>⟨d,rfl,rfl⟩⟩⟩
 obtain⟨⟨l,mk⟩,qp,w₁,es,r1,r2,r3,r4,d,e1,rfl⟩:=jR _ #[] htr h5 hw hM
 simp only at e1
 subst e1
 rw[Array.empty_append]at r1
 obtain⟨A,B,R',hs,hcall,hend⟩:=H tmps h3 h4 l d
 have S0:=r3.perm hs
 obtain⟨S1,x1,x2⟩:=S0.lend
 obtain⟨fn,fi,ca,rfl,hinv⟩:=hcall _ x1 x2
 have hev:(bW b tmps ([mark d]++ds) (.inRangeFunc l::k)).eval f= .func fn fi ca:=h3.ev hf
 have hres:((resolve (bW b tmps ([mark d]++ds) (.inRangeFunc l::k)).eval (IU f l) 0).bind fun d=>invoke d.target d.args)=invoke (.fn fn ca) (fi++[Value.func (.yield l) #[] #[]].toArray):=by
  simp only[resolve,IU,hev,Deferred.ofValue,bind_eq,gq,bind_pure,List.map_toArray,List.map_cons,List.map_nil]
  rfl
 obtain⟨nx,A₁,w₂,es₂,s1,s2,s3,s4,s5⟩:=jR _ #[] hinv S1 (qZ hw r2) (u_ hw hM r2.size)
 rw[Array.empty_append]at s1
 rw[Nb r1,hres]
 
 have on:∀v G (hk₂:Hp) (jr:Nat→Prop),R' v G→Sat (lend x.h B) G hk₂ jr→Fr (grown M w w₁) A jr G→Gs x.P x.main Stop (aS.G (bW b tmps ([mark d]++ds) (.endRangeFunc l::k)) cs) hk₂ jr:=by
  intro v G hk₂ jr r IB f₂
  obtain⟨A₁,hsb,hend⟩:=hend v G r
  obtain⟨aew,aa_⟩:=S0.back (IB.sb hsb) (f₂.sb hsb)
  refine .oN ⟨rfl,fun w₅ acM acN=>?_⟩
  obtain⟨jump,aex,w₆,afP,t1,t2,t3,t4,t5⟩:=jR _ #[] hend aew acM acN
  rw[Array.empty_append]at t1
  have hfr:Fr M F (grown jr w₅ w₆) aex:=r4.trans ((aa_.sub fun _ y=>hs.subset y).trans t4)
  refine⟨_,w₆,_,He t1,t2.mem fun _=>mem_seen,?_⟩
  cases jump with
  | none=>
   obtain⟨UJ,q1,q2⟩:=t5
   exact hc .normal ρ _ UJ tmps _ _ q2 h3 h4 (t3.sb q1) (hfr.sb q1)
  | some c=>exact t5 b k cs Stop tmps _ _ h1 h0 h2 h3 h4 t3 fun e ρ' ds' G' aZ hk' M' q a1 a2 a3 a4=>hc e ρ' ds' G' aZ hk' M' q a1 a2 a3 (hfr.trans a4)
 have hg:dX hk M w w₂ (seen x.P b.fn es++seen x.P b.fn es₂):=by
  have g1:dX hk M w w₁ (seen x.P b.fn es):=r2.mem fun _=>mem_seen
  have g2:dX (snap hk w w₁) (grown M w w₁) w₁ w₂ (seen x.P b.fn es₂):=s2.mem fun _=>mem_seen
  exact g1.trans g2
 have e5:snap (snap hk w w₁) w₁ w₂=snap hk w w₂:=Lm hw r2.size s2.size s2.chans
 have e6:grown (grown M w w₁) w₁ w₂=grown M w w₂:=yX r2.size s2.size
 rw[e5,e6]at s3
 rw[e6]at s4
 cases nx with
 | value v=>exact⟨_,w₂,_,by rw[lZ (fr:=bW b tmps ([mark d]++ds) (.inRangeFunc l::k)) s1 hk',DT];rfl,hg,on v A₁ _ _ s5 s3 s4⟩
 | skip=>exact⟨_,w₂,_,by rw[CP (fr:=bW b tmps ([mark d]++ds) (.inRangeFunc l::k)) s1 hk',DT];rfl,hg,on undef A₁ _ _ s5 s3 s4⟩
 | enter f args=>exact⟨_,w₂,_,by rw[Nc (fr:=bW b tmps ([mark d]++ds) (.inRangeFunc l::k)) s1 hk' ⟨_,_,rfl⟩,DT];rfl,hg,s5 (bW b tmps ([mark d]++ds) (.inRangeFunc l::k)) cs Stop _ _ s3 fun v G hk₂ jr r IB f₂=>on v G hk₂ jr r IB (s4.trans f₂)⟩
 | round l' f tm as' bd'=>exact⟨_,w₂,_,by rw[Gq (fr:=bW b tmps ([mark d]++ds) (.inRangeFunc l::k)) s1 hk',DT];rfl,hg,s5 (bW b tmps ([mark d]++ds) (.inRangeFunc l::k)) cs Stop _ _ s3 fun v G hk₂ jr r IB f₂=>on v G hk₂ jr r IB (s4.trans f₂)⟩
 | _=>exact s5.elim

end Go.aS
