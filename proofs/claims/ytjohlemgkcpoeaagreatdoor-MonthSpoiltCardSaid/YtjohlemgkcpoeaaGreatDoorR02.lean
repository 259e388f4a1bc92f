/- Regions whose order is open: each order that the edges allow. Conditions: none; over any program. (And 5 texts more.) -/
import Derived.Test.YtjohlemgkcpoeaaGreatDoorR01
import Derived.Orders
import Derived.IntWalk
import Derived.KernelRfl
set_option linter.unusedVariables false
set_option linter.unusedSimpArgs false
set_option linter.unusedSectionVars false
set_option maxRecDepth 100000
set_option maxHeartbeats 4000000

namespace Go.jc
abbrev Ev:=Nat->Option Value
def upd(ε:Ev)(d:Option Tmp)(v:Value):Ev:=match d with | some d=>fun s=>bif Nat.beq s d then some v else ε s | none=>ε
def afI(ε:Ev):Operand->Option Value
 | .tmp t=>ε t
 | .const v=>some v
 | .global g=>some (.pointer (some ⟨g,0,none⟩))
 | .func f=>some (.func (.func f) #[] #[])
def Cons(ε:Ev)(e:Operand->Value):Prop:=∀y v,afI ε y=some v->e y=v
variable{A F F':ah}{B:Prop}{D:Option Tmp}{E t t':TypeId}{K:Ev->ah->Prop}{P:Program}{Q R R':Value->ah->Prop}{S:ah->Prop}{U:Obj->ah}{a ix y z:Operand}{args:List Operand}{b b' wO cap d' ft fuel i id Oe j listed m po s:Nat}{c cs vs zc:Array Value}{ds:List Deferred}{e:Operand->Value}{f:FuncId}{fv u v:Value}{fz:Nat×Nat}{h h':Hp}{k k':IntKind}{o:Oper}{parts:List (Nat×Operand)}{rs:List ResultVar}{ts:Array TypeId}{x:Cx}{α β:Type}{ε:Ev}{ρ:Env}
theorem aA.avW{Q:fO}{ops:Array Oper}{d:Nat}{rest:List Nat}{w:Bool}(ho:ops[i]? =some o)(hg:o.guard=some (j,w))(hj:(ops[j]?).bind (·.dst)=some d)(hv:look ρ d=some undef)(hd:iy o.dst x.n=true)
  (H:aA x ops rest Q (put ρ o.dst undef) ds F):aA x ops (i::rest) Q ρ ds F:=by
 intro b k cs Stop tmps hk M h1 h0 h2 h3 h4 h5 hc
 have hw:Region.wanted o (yielded ops tmps)=false:=by
  simp only[Region.wanted,hg,yielded,hj,Option.bind_some,h3 d _ hv]
  rfl
 obtain⟨p1,p2⟩:=h3.Jg h4 hd undef;refine .idle O (fun _=>Ar ho hw) ?_;rw[fQ (cs:=cs) ho undef];exact H b k cs Stop _ _ _ h1 h0 h2 p1 p2 h5 hc

def iM(ops:Array Oper)(ε:Ev)(o:Oper)(w:Bool):Prop:=
 match o.guard with
 | none=>w=true
 | some (j,g)=>∃d v,(ops[j]?).bind (·.dst)=some d/\ε d=some v/\((∃b,v= .bool b/\(b==g)=w)\/(v=undef/\w=false))

theorem GH(ρ:Env)(d:Option Tmp)(v:Value):upd (look ρ) d v=look (put ρ d v):=by
 cases d with
 | none=>rfl
 | some d=>rfl
theorem t_(ρ:Env):afI (look ρ)=ev ρ:=by funext x;cases x <;>rfl

def lK(e:Edge):Bool:=Region.binds .any e
def Oo(ops:Array Oper)(listed:Nat)(i:Nat):Bool:=match ops[i]? with | some o=> !listed.testBit i&&o.after.all fun e=> !lK e|| listed.testBit e.on | none=>false
def rH(ops:Array Oper)(listed:Nat):List Nat:=(List.range ops.size).filter fun i=>Oo ops listed i

def X_(ops:Array Oper):Nat->Nat->Nat->Bool
 | 0,i,j=>Nat.beq j i
 | n+1,i,j=>Nat.beq j i|| (match ops[i]? with | some o=>o.after.any fun e=>lK e&&X_ ops n e.on j | none=>false)
def lastT(ops:Array Oper)(i:Nat):Bool:=match ops[i]? with
 | some o=>(List.range ops.size).all fun j=>Nat.beq j i|| (o.after.any fun e=>lK e&&Nat.beq e.on j)|| (o.after.any fun e=>lK e&&X_ ops 3 e.on j)
 | none=>false
def opT(x:Cx)(ops:Array Oper)(i:Nat)(K:Ev->ah->Prop)(ε:Ev)(F:ah):Prop:=
 ∃o,ops[i]? =some o/\iy o.dst x.n=true/\(∀c,o.op≠ .defer c)/\
  (
   (iM ops ε o true/\∀e,Cons ε e->LQ x o e F fun v F'=>K (upd ε o.dst v) F')\/
   (iM ops ε o false/\K (upd ε o.dst undef) F)\/(lastT ops i=true/\∃v A A' B,(A++B).Perm F/\(∀B' Q ρ ds rest,look ρ=ε->aA x ops rest Q (put ρ o.dst v) ds (A'++B')->aA x ops (i::rest) Q ρ ds (A++B'))/\K (upd ε o.dst v) (A'++B)))

theorem ahT{ops:Array Oper}{K':Ev->ah->Prop}(H:opT x ops i K ε F)(hk:∀ε F,K ε F->K' ε F):opT x ops i K' ε F:=by
 obtain⟨o,h1,h2,h3,h4⟩:=H;exact⟨o,h1,h2,h3,h4.imp (fun⟨a,b⟩=>⟨a,fun e he=>(b e he).mono fun v F=>hk _ _⟩) (fun h=>h.imp (fun⟨a,b⟩=>⟨a,hk _ _ b⟩) fun⟨a,v,A,A',B,b,c,d⟩=>⟨a,v,A,A',B,b,c,hk _ _ d⟩)⟩

def Ya(ops:Array Oper)(listed:Nat):Bool:=(List.range ops.size).all fun k=> !listed.testBit k|| (match ops[k]? with | some o=>o.after.all fun e=> !lK e|| listed.testBit e.on | none=>true)
def Closed(ops:Array Oper)(listed:Nat):Prop:=∀k o,ops[k]? =some o->listed.testBit k=true->∀e∈o.after,lK e=true->listed.testBit e.on=true

def J7(x:Cx)(ops:Array Oper)(S:ah->Prop)(K:Ev->ah->Prop):Nat->Nat->Ev->ah->Prop
 | 0,listed,ε,F=>rH ops listed=[]/\K ε F
 | n+1,listed,ε,F=>(rH ops listed=[]->K ε F)/\∀i,Oo ops listed i=true->opT x ops i (fun ε' F'=>(lastT ops i=true\/S F')/\J7 x ops S K n (listed||| 2 ^ i) ε' F') ε F

theorem testBit_or{n i j:Nat}:(n||| 2 ^ i).testBit j=(n.testBit j|| decide (i=j)):=by
 rw[Nat.testBit_or,Nat.testBit_two_pow]

theorem acM{ops:Array Oper}(h:Oo ops listed i=true):i<ops.size:=by
 unfold Oo at h;split at h
 ·rename_i o ho;rcases bQ i ops.size with h' | h'
  ·exact h'
  rw[Array.getElem?_eq_none h']at ho;cases ho
 cases h

theorem uf{ops:Array Oper}:i∈rH ops listed↔Oo ops listed i=true:=by
 simp only[rH,List.mem_filter,List.mem_range];exact⟨fun h=>h.2,fun h=>⟨acM h,h⟩⟩

theorem RJ{ops:Array Oper}(h:Oo ops listed i=true)(hij:j≠i):Oo ops (listed||| 2 ^ j) i=true:=by
 unfold Oo at h⊢;split at h
 ·rename_i o ho;simp only[Bool.and_eq_true,Bool.not_eq_true',Array.all_eq_true_iff_forall_mem,Bool.or_eq_true]at h⊢;simp only[ho,testBit_or,Bool.and_eq_true,Bool.not_eq_true',Bool.or_eq_false_iff,decide_eq_false_iff_not,Array.all_eq_true_iff_forall_mem,Bool.or_eq_true];exact⟨⟨h.1,hij⟩,fun e he=>(h.2 e he).imp id .inl⟩
 cases h

def PE(x:Cx)(ops:Array Oper)(S:ah->Prop)(o:Oper)(v:Value)(ε:Ev):Prop:=
 (iM ops ε o true/\∀e,Cons ε e->∀F,S F->∀h',Ext x.h h'->tr x.P h' (execOp e o) F fun nx F'=>nx= .value v/\F'=F)\/(iM ops ε o false/\v=undef)

theorem Cons.drop{d:Nat}(h:Cons ε e):Cons (upd ε (some d) v) (fun y=>match y with | .tmp t=>bif Nat.beq t d then v else e (.tmp t) | y=>e y):=by
 intro y u hy
 cases y with
 | tmp t=>
  simp only[afI,upd]at hy
  cases hb:Nat.beq t d with
  | true=>rw[hb]at hy;simp only[cond_true,dY]at hy;simpa[hb]using hy
  | false=>rw[hb]at hy;simp only[cond_false]at hy;simpa[hb]using h (.tmp t) u hy
 | const c=>exact h _ _ hy
 | global g=>exact h _ _ hy
 | func f=>exact h _ _ hy

theorem D8{ops:Array Oper}{w:Bool}{d:Nat}(h:d∉o.looksAt ops):iM ops (upd ε (some d) v) o w↔iM ops ε o w:=by
 unfold iM
 cases hg:o.guard with
 | none=>rfl
 | some jg=>
  obtain⟨j,g⟩:=jg;constructor
  ·rintro⟨t,u,h1,h2,h3⟩;refine⟨t,u,h1,?_,h3⟩;have iK:t≠d:=fun e=>h (by subst e;simp[Oper.looksAt,hg,h1]);have:Nat.beq t d=false:=by cases hb:Nat.beq t d with | false=>rfl | true=>exact absurd (Nat.eq_of_beq_eq_true hb) iK
   simpa[upd,this]using h2
  rintro⟨t,u,h1,h2,h3⟩;refine⟨t,u,h1,?_,h3⟩;have iK:t≠d:=fun e=>h (by subst e;simp[Oper.looksAt,hg,h1]);have:Nat.beq t d=false:=by cases hb:Nat.beq t d with | false=>rfl | true=>exact absurd (Nat.eq_of_beq_eq_true hb) iK
  simpa[upd,this]using h2

theorem ZO{ops:Array Oper}(hs:∀cs b,o.op≠ .select cs b){d:Nat}{v:Value}{e:Operand->Value}(h:d∉o.looksAt ops):
  execOp (fun y=>match y with | .tmp t=>bif Nat.beq t d then v else e (.tmp t) | y=>e y) o=execOp e o:=
 execOp_congr o hs fun y hy=>by
  cases y with
  | tmp t=>
   have iK:t≠d:=fun e=>h (by subst e;exact jm _ (List.mem_filterMap.2 ⟨.tmp t,by simpa using hy,O⟩));have:Nat.beq t d=false:=by cases hb:Nat.beq t d with | false=>rfl | true=>exact absurd (Nat.eq_of_beq_eq_true hb) iK
   simp[this]
  | _=>rfl

theorem ahV{d:Nat}(h:d≠d'):upd (upd ε (some d) v) (some d') u=upd (upd ε (some d') u) (some d) v:=by
 funext t;simp only[upd]
 cases h1:Nat.beq t d <;>cases h2:Nat.beq t d' <;>try rfl
 exact absurd ((Nat.eq_of_beq_eq_true h1).symm.trans (Nat.eq_of_beq_eq_true h2)) h

theorem ala{ops:Array Oper}{oi oj:Oper}(hj:ops[j]? =some oj)(hap:oi.apart ops oj=true)(hsi:∀cs b,oi.op≠ .select cs b)(hsj:∀cs b,oj.op≠ .select cs b)(hnl:lastT ops j=false)
  (hy:PE x ops S oi v ε) (H:opT x ops j K (upd ε oi.dst v) F):opT x ops j (fun ε' F'=>PE x ops S oi v ε'/\K (upd ε' oi.dst v) F') ε F:=by
 obtain⟨h1,h2,h3⟩:=Oper.apart_spec hap;obtain⟨o,e,a1,a2,a3⟩:=H;obtain rfl:oj=o:=Option.some.inj (hj.symm.trans e)
 have keep:∀ε,PE x ops S oi v ε->∀u,PE x ops S oi v (upd ε oj.dst u):=by
  intro ε hy u
  cases hd:oj.dst with
  | none=>exact hy
  | some d=>
   have hn:=h3 d hd;refine hy.imp (fun⟨y1,y2⟩=>⟨(D8 hn).2 y1,fun e he F hS h' hE=>?_⟩) (fun⟨y1,y2⟩=>⟨(D8 hn).2 y1,y2⟩)
   have hc:Cons ε (fun y=>match y with | .tmp t=>bif Nat.beq t d then(ε t).getD (e (.tmp t))else e (.tmp t) | y=>e y):=by
    intro y w hw
    cases y with
    | tmp t=>
     simp only[afI]at hw
     cases hb:Nat.beq t d with
     | true=>simp[hb,hw]
     | false=>simpa[hb]using he (.tmp t) w (by simpa[afI,upd,hb]using hw)
    | const c=>exact he _ _ hw
    | global g=>exact he _ _ hw
    | func f=>exact he _ _ hw
   have:=y2 _ hc F hS h' hE
   have e1:execOp (fun y=>match y with | .tmp t=>bif Nat.beq t d then(ε t).getD (e (.tmp t))else e (.tmp t) | y=>e y) oi=execOp e oi:=
    execOp_congr oi hsi fun y hy'=>by
     cases y with
     | tmp t=>
      have iK:t≠d:=fun e=>hn (by subst e;exact jm _ (List.mem_filterMap.2 ⟨.tmp t,by simpa using hy',O⟩));have:Nat.beq t d=false:=by cases hb:Nat.beq t d with | false=>rfl | true=>exact absurd (Nat.eq_of_beq_eq_true hb) iK
      simp[this]
     | _=>rfl
   rwa[e1]at this
 refine⟨oj,hj,a1,a2,?_⟩
 cases hdi:oi.dst with
 | none=>
  rw[hdi]at a3;rcases a3 with⟨b1,b2⟩ | ⟨b1,b2⟩ | ⟨b1,_⟩
  ·exact .inl ⟨b1,fun e he=>(b2 e he).mono fun u F k=>⟨keep ε hy u,k⟩⟩
  ·exact .inr (.inl ⟨b1,keep ε hy _,b2⟩)
  rw[hnl]at b1;cases b1
 | some d=>
  rw[hdi]at a3;have hn:=h1 d hdi
  have comm:∀u,upd (upd ε (some d) v) oj.dst u=upd (upd ε oj.dst u) (some d) v:=by
   intro u
   cases hdj:oj.dst with
   | none=>rfl
   | some d'=>exact ahV fun e=>h2 d hdi (by rw[hdj,e])
  rcases a3 with⟨b1,b2⟩ | ⟨b1,b2⟩ | ⟨b1,_⟩
  ·refine .inl ⟨(D8 hn).1 b1,fun e he=>?_⟩;have:=b2 _ he.drop;unfold LQ at this;rw[ZO hsj hn]at this;exact LQ.mono this fun u F k=>⟨keep ε hy u,by rw[<-comm];exact k⟩
  ·exact .inr (.inl ⟨(D8 hn).1 b1,keep ε hy _,by rw[<-comm];exact b2⟩)
  rw[hnl]at b1;cases b1

theorem PE.opT{ops:Array Oper}(hi:ops[i]? =some o)(hd:iy o.dst x.n=true)(DZ:∀c,o.op≠ .defer c)(hy:PE x ops S o v ε)(hS:S F)(H:K (upd ε o.dst v) F):
  opT x ops i K ε F:=by
 refine⟨o,hi,hd,DZ,?_⟩;rcases hy with⟨a,b⟩ | ⟨a,rfl⟩
 ·exact .inl ⟨a,fun e he=>⟨F,[],by simp,fun h' e1 _=>qg (b e he F hS h' e1) fun nx F' ⟨e1,e2⟩=>by subst e1 e2;simpa[tZ]using H⟩⟩
 exact .inr (.inl ⟨a,H⟩)

def Fb(ops:Array Oper)(listed i:Nat):Bool:=
 Ya ops listed&&match ops[i]? with
 | none=>false
 | some oi=>(List.range ops.size).all fun j=>Nat.beq j i|| listed.testBit j|| (match ops[j]? with | some oj=>(oj.after.any fun e=>lK e&&Nat.beq e.on i)|| oi.apart ops oj | none=>true)

theorem acN{ops:Array Oper}{oi:Oper}(hi:ops[i]? =some oi)(h:Fb ops listed i=true):∀j oj,ops[j]? =some oj->j≠i->listed.testBit j=false->(∀e∈oj.after,lK e=true->e.on≠i)->oi.apart ops oj=true:=by
 intro j oj hj hji hl he;simp only[Fb,Bool.and_eq_true,hi,List.all_eq_true,List.mem_range]at h;replace h:=h.2
 have fK:j<ops.size:=by
  rcases bQ j ops.size with h' | h'
  ·exact h'
  rw[Array.getElem?_eq_none h']at hj;cases hj
 have:=h j fK;have hb:Nat.beq j i=false:=by cases hb:Nat.beq j i with | false=>rfl | true=>exact absurd (Nat.eq_of_beq_eq_true hb) hji
 simp only[hb,hl,hj,Bool.false_or,Bool.or_eq_true,Array.any_eq_true,Bool.and_eq_true]at this;rcases this with⟨k,hk,h1,h2⟩ | h2
 ·exact absurd (Nat.eq_of_beq_eq_true h2) (he _ (Array.getElem_mem hk) h1)
 exact h2

theorem Yb{ops:Array Oper}(h:Ya ops listed=true):Closed ops listed:=by
 intro k o hk hl e he hb
 have fK:k<ops.size:=by
  rcases bQ k ops.size with h' | h'
  ·exact h'
  rw[Array.getElem?_eq_none h']at hk;cases hk
 simp only[Ya,List.all_eq_true,List.mem_range]at h;have:=h k fK;simp only[hl,Bool.not_true,Bool.false_or,hk,Array.all_eq_true_iff_forall_mem]at this;have:=this e he;simpa[hb]using this
theorem Yc{ops:Array Oper}(h:Fb ops listed i=true):Closed ops listed:=by
 simp only[Fb,Bool.and_eq_true]at h;exact Yb h.1
theorem RN{ops:Array Oper}(h:Oo ops listed j=true):∃oj,ops[j]? =some oj/\listed.testBit j=false/\∀e∈oj.after,lK e=true->listed.testBit e.on=true:=by
 unfold Oo at h;split at h
 ·rename_i o ho;simp only[Bool.and_eq_true,Bool.not_eq_true',Array.all_eq_true_iff_forall_mem,Bool.or_eq_true]at h;exact⟨o,ho,h.1,fun e he hb=>(h.2 e he).resolve_left (by rw[hb];simp)⟩
 cases h

theorem JI{ops:Array Oper}{listed:Nat}(hc:Closed ops listed):∀{n i j:Nat},listed.testBit i=true->X_ ops n i j=true->listed.testBit j=true
 | 0,i,j,hi,h=>by rw[Nat.eq_of_beq_eq_true h];exact hi
 | n+1,i,j,hi,h=>by
  simp only[X_,Bool.or_eq_true]at h;rcases h with h | h
  ·rw[Nat.eq_of_beq_eq_true h];exact hi
  cases ho:ops[i]? with
  | none=>rw[ho]at h;cases h
  | some o=>
   rw[ho]at h;simp only[Array.any_eq_true,Bool.and_eq_true]at h;obtain⟨k,hk,h2,h3⟩:=h;exact JI hc (n:=n) (hc _ o ho hi _ (Array.getElem_mem hk) h2) h3
theorem RQ{ops:Array Oper}(hc:Closed ops listed)(hl:lastT ops j=true)(hj:Oo ops listed j=true)(hi:Oo ops listed i=true):i=j:=by
 have fK:=acM hi;obtain⟨oi,hoi,alb,_⟩:=RN hi;obtain⟨oj,hoj,_,hja⟩:=RN hj;unfold lastT at hl;simp only[hoj,List.all_eq_true,List.mem_range,Bool.or_eq_true]at hl;rcases hl i fK with(h1 | h1) | h1
 ·exact Nat.eq_of_beq_eq_true h1
 ·simp only[Array.any_eq_true,Bool.and_eq_true]at h1;obtain⟨k,hk,h2,h3⟩:=h1;have h4:=hja _ (Array.getElem_mem hk) h2;rw[Nat.eq_of_beq_eq_true h3,alb]at h4
  cases h4
 simp only[Array.any_eq_true,Bool.and_eq_true]at h1;obtain⟨k,hk,h2,h3⟩:=h1;have h4:=JI hc (hja _ (Array.getElem_mem hk) h2) h3;rw[alb]at h4;cases h4
theorem Closed.step{ops:Array Oper}(hc:Closed ops listed)(hj:Oo ops listed j=true):Closed ops (listed||| 2 ^ j):=by
 intro k o hk hl e he hb;rw[testBit_or]at hl⊢;rw[Bool.or_eq_true]at hl⊢;left;rcases hl with hl | hl
 ·exact hc k o hk hl e he hb
 have:j=k:=by simpa using hl
 subst this;obtain⟨oj,hoj,_,hja⟩:=RN hj;rw[hk]at hoj
 cases hoj
 exact hja e he hb

theorem acO{ops:Array Oper}{S:ah->Prop}{K:Ev->ah->Prop}{oi:Oper}{v:Value}(hi:ops[i]? =some oi)(ar2:∀(j:Nat) (o:Oper) cs b,ops[j]? =some o->o.op≠ .select cs b)
  (hd:iy oi.dst x.n=true) (DZ:∀c,oi.op≠ .defer c):
  ∀(fuel listed:Nat) (ε:Ev) (F:ah),Closed ops listed->
   (∀j oj,ops[j]? =some oj->j≠i->listed.testBit j=false->(∀e∈oj.after,lK e=true->e.on≠i)->oi.apart ops oj=true)->
   Oo ops listed i=true->PE x ops S oi v ε->S F->
   J7 x ops S K fuel (listed||| 2 ^ i) (upd ε oi.dst v) F->J7 x ops S K (fuel+1) listed ε F:=by
 intro fuel
 induction fuel with
 | zero=>
  intro listed ε F ZG _ hr hy hS H;refine⟨fun h=>absurd (uf.2 hr) (by rw[h];simp),fun j hj=>?_⟩;by_cases hji:j=i
  ·subst hji;exact hy.opT hi hd DZ hS ⟨.inr hS,H⟩
  have:=uf.2 (RJ hj (Ne.symm hji));rw[H.1]at this
  cases this
 | succ fuel ih=>
  intro listed ε F ZG anu hr hy hS H;refine⟨fun h=>absurd (uf.2 hr) (by rw[h];simp),fun j hj=>?_⟩;by_cases hji:j=i
  ·subst hji;exact hy.opT hi hd DZ hS ⟨.inr hS,H⟩
  have h1:=H.2 j (RJ hj (Ne.symm hji));obtain⟨oj,hoj,avY,aO⟩:=RN hj;obtain⟨oi',az6,alb,_⟩:=RN hr
  have aoN:∀e∈oj.after,lK e=true->e.on≠i:=fun e he hb heq=>by
   have h1:=aO e he hb;rw[heq,alb]at h1
   cases h1
  have hnl:lastT ops j=false:=by
   cases hl:lastT ops j with
   | false=>rfl
   | true=>exact absurd (RQ ZG hl hj hr).symm hji
  have h2:=ala hoj (anu j oj hoj hji avY aoN) (fun cs b=>ar2 i oi cs b hi) (fun cs b=>ar2 j oj cs b hoj) hnl hy h1
  have aoO:∀k ok,ops[k]? =some ok->k≠i->(listed||| 2 ^ j).testBit k=false->(∀e∈ok.after,lK e=true->e.on≠i)->oi.apart ops ok=true:=fun k ok hk hki hun xJ=>by
   rw[testBit_or,Bool.or_eq_false_iff]at hun;exact anu k ok hk hki hun.1 xJ
  refine ahT h2 fun ε' F' ⟨h3,h4,h5⟩=>?_;have xM:S F':=h4.resolve_left fun hl=>hji (RQ ZG hl hj hr).symm;refine⟨.inr xM,ih _ _ _ (ZG.step hj) aoO (RJ hr hji) h3 xM ?_⟩;have e:listed||| 2 ^ j||| 2 ^ i=listed||| 2 ^ i||| 2 ^ j:=by rw[Nat.or_assoc,Nat.or_comm (2 ^ j),<-Nat.or_assoc]
  rw[e];exact h5

def LW(ops:Array Oper):Bool:=ops.all fun o=>match o.op with | .select .. =>false | _=>true

theorem acP{ops:Array Oper}(h:LW ops=true):∀(j:Nat) (o:Oper) cs b,ops[j]? =some o->o.op≠ .select cs b:=by
 intro j o cs b ho he;have:=Array.all_eq_true_iff_forall_mem.1 h o (Array.mem_of_getElem? ho);simp[he]at this

def acQ(l:Array Bool)(n:Nat):Prop:=∀i,n.testBit i=l.getD i false

theorem alc{ops:Array Oper}{l:Array Bool}{n:Nat}(hl:l.size=ops.size)(h:acQ l n):Region.ready .any ops l=rH ops n:=by
 unfold Region.ready rH;apply List.filter_congr;intro i hi;have fK:i<ops.size:=List.mem_range.1 hi;have e1:l.getD i true=n.testBit i:=by rw[h i];simp[Array.getD,hl,fK]
 unfold Oo;rw[Array.getElem?_eq_getElem fK];simp only[Option.map_some,Option.getD_some,e1]
 congr 1
 congr 1
 funext e;simp only[lK,h e.on]

theorem acR{x:Cx}{ops:Array Oper}{S:ah->Prop}{Q:fO}
  (hK:∀(ε:Ev) F,K ε F->∃ρ F',(∀t v,look ρ t=some v->ε t=some v)/\Sb F' F/\Q .normal ρ ds F'):
  ∀(fuel t n:Nat) (l:Array Bool) (ρ:Env) (F:ah),l.size=ops.size->acQ l n->J7 x ops S K fuel n (look ρ) F->aA x ops (Region.linearise.go .any ops fuel t l []) Q ρ ds F:=by
 have fin:∀(ρ:Env) (F:ah),K (look ρ) F->aA x ops [] Q ρ ds F:=fun ρ F k=>by
  obtain⟨gW,F',h1,hp,h2⟩:=hK _ _ k;intro b k cs Stop tmps hk M a1 a0 a2 a3 a4 a5 hc;exact .idle O (fun _=>Bl) (hc .normal gW ds F' tmps hk M h2 (fun t v h=>a3 t v (h1 t v h)) a4 (a5.sb hp) (.sub (fun _ y=>hp.mem _ y) .refl))
 intro fuel
 induction fuel with
 | zero=>intro t n l ρ F hl hb H;simpa[Region.linearise.go]using fin ρ F H.2
 | succ fuel ih=>
  intro t n l ρ F hl hb H;simp only[Region.linearise.go]
  change aA x ops (match(Region.ready .any ops l)[t % (Region.ready .any ops l).length]? with
   | some i=>Region.linearise.go .any ops fuel (t / (Region.ready .any ops l).length) (l.setIfInBounds i true) [i]
   | none=>[].reverse) Q ρ ds F
  rw[alc hl hb]
  cases hi:(rH ops n)[t % (rH ops n).length]? with
  | none=>
   have ahX:rH ops n=[]:=by
    cases hr:rH ops n with
    | nil=>rfl
    | cons y ys=>
     rw[hr]at hi;have fK:t % (y::ys).length<(y::ys).length:=Nat.mod_lt _ (by simp);simp at hi;simp at fK;omega
   exact fin ρ F (H.1 ahX)
  | some i=>
   simp only[];rw[linearise_go_acc,List.reverse_singleton,List.singleton_append];have hr:=uf.1 (dL hi);have fK:=acM hr;obtain⟨o,h1,h2,h3,h4⟩:=H.2 i hr
   have wz:acQ (l.setIfInBounds i true) (n||| 2 ^ i):=by
    intro j;rw[testBit_or,hb j];by_cases hij:i=j
    ·subst hij;simp[Array.getD,hl,fK]
    simp[Array.getD_eq_getD_getElem?,kM hij,hij]
   have go:∀v F',J7 x ops S K fuel (n||| 2 ^ i) (upd (look ρ) o.dst v) F'->aA x ops (Region.linearise.go .any ops fuel (t / (rH ops n).length) (l.setIfInBounds i true) []) Q (put ρ o.dst v) ds F':=fun v F' h=>by
    rw[GH]at h;exact ih _ _ _ _ _ (by simpa using hl) wz h
   rcases h4 with⟨h4,h5⟩ | ⟨h4,h5⟩ | ⟨_,v,A,A',B,hp,ha,h5⟩
   rotate_left 2
   ·exact .perm hp (ha B Q ρ ds _ O (go v _ h5.2))
   ·refine aA.op h1 ?_ h2 h3 fun e he=>(h5 e fun y v hy=>he y v (by rwa[t_]at hy)).mono fun v F' h=>go v F' h.2;unfold gY;unfold iM at h4;split at h4
    ·rename_i hg;simp[hg]
    rename_i j g hg;obtain⟨d,v,b1,b2,b3⟩:=h4
    try simp only[hg]
    rcases b3 with⟨b,rfl,b3⟩ | ⟨_,b3⟩
    ·exact⟨d,b1,by rw[b2];simpa using b3⟩
    cases b3
   unfold iM at h4;split at h4
   ·cases h4
   rename_i j g hg;obtain⟨d,v,b1,b2,b3⟩:=h4;rcases b3 with⟨b,rfl,b3⟩ | ⟨rfl,_⟩
   ·exact aA.unwanted h1 hg b1 b2 b3 h2 (go _ _ h5.2)
   exact aA.avW h1 hg b1 b2 h2 (go _ _ h5.2)

theorem LQ.perm(p:F'.Perm F)(H:LQ x o e F' R):LQ x o e F R:=by
 obtain⟨A,B,h1,h2⟩:=H;exact⟨A,B,h1.trans p,h2⟩

theorem afJ{ops:Array Oper}(hS:∀F F',F'.Perm F->S F'->S F)(hK:∀ε F F',F'.Perm F->K ε F'->K ε F):∀(fuel n:Nat) (ε:Ev) (F F':ah),F'.Perm F->J7 x ops S K fuel n ε F'->J7 x ops S K fuel n ε F:=by
 intro fuel
 induction fuel with
 | zero=>exact fun n ε F F' p H=>⟨H.1,hK _ _ _ p H.2⟩
 | succ fuel ih=>
  intro n ε F F' p H;refine⟨fun h=>hK _ _ _ p (H.1 h),fun i hi=>?_⟩;obtain⟨o,h1,h2,h3,h4⟩:=H.2 i hi;exact⟨o,h1,h2,h3,h4.imp (fun⟨a,b⟩=>⟨a,fun e he=>(b e he).perm p⟩) (fun h=>h.imp (fun⟨a,b,c⟩=>⟨a,b.imp id (hS _ _ p),ih _ _ _ _ p c⟩) fun⟨a,v,A,A',B,b,c,d⟩=>⟨a,v,A,A',B,b.trans p,c,d⟩)⟩

def aC(L:ah)(F:ah):Prop:=∀p∈L,p∈F

def fin(Q:fO)(ds:List Deferred)(ε:Ev)(F:ah):Prop:=∃ρ F',(∀t v,look ρ t=some v->ε t=some v)/\Sb F' F/\Q .normal ρ ds F'

def Any(x:Cx)(ops:Array Oper)(L:ah)(fuel listed:Nat)(Q:fO)(ρ:Env)(ds:List Deferred)(F:ah):Prop:=
 J7 x ops (aC L) (fin Q ds) fuel listed (look ρ) F

section rules
variable{x:Cx}{Q:fO}{ρ:Env}{ds:List Deferred}{F:ah}{ops:Array Oper}{L:ah}{fuel listed:Nat}
theorem RS{main:Bool}{b:Frame}{t:Array Value}{k:List Item}{cs:List Frame}{w:World}{id:Nat}(hm:P.follows .mixedOrders=true):
  stepG P main (G (dR b t ds (.code (.region id ops true)::k)) cs) w= .go (G (dR b t ds (.inRegion ops (Region.linearise.go .any ops ops.size (w.tape w.drawn (.order b.fn id)) (Array.replicate ops.size false) [])::k)) cs) {w with drawn:=w.drawn+1} #[]:=by
 simp[Conc.G,stepG,stepG.exec,dR,choose,Sem.run,Question.forced,Question.cut,Region.schedule,hm,Region.linearise]

theorem W.draw(hm:x.P.follows .mixedOrders=true)(L:ah)(H:Any x ops L ops.size 0 Q ρ ds F):W x (.region id ops true) Q ρ ds F:=by
 intro b k cs Stop tmps hk M h1 h0 h2 h3 h4 h5 hc;refine .tY ⟨O,fun w hw hM=>⟨_,_,_,RS hm,iR.heap O O O O,?_⟩⟩;have e1:snap hk w {w with drawn:=w.drawn+1}=hk:=vF hw;have e2:grown M w {w with drawn:=w.drawn+1}=M:=rG;rw[e1,e2];exact acR (fun _ _ h=>h) ops.size _ 0 _ ρ F (by simp) (fun i=>by simp[Array.getD]) H b k cs Stop tmps hk M h1 h0 h2 h3 h4 h5 hc

theorem aC.perm{L F:ah}(p:F'.Perm F)(h:aC L F'):aC L F:=fun q hq=>p.subset (h q hq)

theorem Any.perm(p:F'.Perm F)(H:Any x ops L fuel listed Q ρ ds F'):Any x ops L fuel listed Q ρ ds F:=
 afJ (fun _ _ p=>aC.perm p) (fun _ _ _ p ⟨ρ,F',h1,h2,h3⟩=>⟨ρ,F',h1,h2.trans (.aT p),h3⟩) _ _ _ _ _ p H

theorem afK{x:Cx}{ops:Array Oper}(hS:∀F F',Sb F' F->S F'->S F)(hK:∀ε F F',Sb F' F->K ε F'->K ε F):∀(fuel n:Nat) (ε:Ev) (F F':ah),Sb F' F->J7 x ops S K fuel n ε F'->J7 x ops S K fuel n ε F:=by
 intro fuel
 induction fuel with
 | zero=>exact fun n ε F F' p H=>⟨H.1,hK _ _ _ p H.2⟩
 | succ fuel ih=>
  intro n ε F F' p H;refine⟨fun h=>hK _ _ _ p (H.1 h),fun i hi=>?_⟩;obtain⟨o,h1,h2,h3,h4⟩:=H.2 i hi;refine⟨o,h1,h2,h3,h4.imp (fun⟨a,b⟩=>⟨a,fun e he=>?_⟩) (fun h=>h.imp (fun⟨a,b,c⟩=>⟨a,b.imp id (hS _ _ p),ih _ _ _ _ p c⟩) fun⟨a,v,A,A',B,b,c,d⟩=>?_)⟩
  rotate_left
  ·obtain⟨C,p1,p2⟩:=p;have bF:Sb (A'++B) (A'++(B++C)):=by rw[<-eF];exact⟨C,.refl _,p2⟩
   exact⟨a,v,A,A',B++C,by rw[<-eF];exact(b.append_right C).trans p1,c,d.1.imp id (hS _ _ bF),ih _ _ _ _ bF d.2⟩
  obtain⟨A,B,q1,q2⟩:=b e he;obtain⟨C,p1,p2⟩:=p;refine⟨A,B++C,?_,fun h' e1 e2=>qg (q2 h' e1 fun b o hb=>e2 b o (jm _ hb)) fun _ _ y=>y.mono fun v A' r=>?_⟩
  ·rw[<-eF];exact(q1.append_right C).trans p1
  have bF:Sb (A'++B) (A'++(B++C)):=by rw[<-eF];exact⟨C,.refl _,p2⟩
  exact⟨r.1.imp id (hS _ _ bF),ih _ _ _ _ bF r.2⟩
theorem Any.sb(p:Sb F' F)(H:Any x ops L fuel listed Q ρ ds F'):Any x ops L fuel listed Q ρ ds F:=
 afK (fun _ _ p h q hq=>p.mem _ (h q hq)) (fun _ _ _ p ⟨ρ,F',h1,h2,h3⟩=>⟨ρ,F',h1,h2.trans p,h3⟩) _ _ _ _ _ p H


theorem Any.done(hr:rH ops listed=[])(H:Q .normal ρ ds F):Any x ops L fuel listed Q ρ ds F:=by
 have k:fin Q ds (look ρ) F:=⟨ρ,F,fun _ _ h=>h,.refl,H⟩
 cases fuel with
 | zero=>exact⟨hr,k⟩
 | succ n=>exact⟨fun _=>k,fun i hi=>absurd (uf.2 hi) (by rw[hr];simp)⟩

theorem Any.take(hi:ops[i]? =some o)(hs:LW ops=true)(hf:Fb ops listed i=true)(hr:Oo ops listed i=true)(hd:iy o.dst x.n=true)(DZ:∀c,o.op≠ .defer c)(hS:aC L F)
  (hy:PE x ops (aC L) o v (look ρ)) (H:Any x ops L fuel (listed||| 2 ^ i) Q (put ρ o.dst v) ds F):Any x ops L (fuel+1) listed Q ρ ds F:=by
 unfold Any at H⊢;rw[<-GH]at H;exact acO hi (acP hs) hd DZ fuel listed _ F (Yc hf) (acN hi hf) hr hy hS H

theorem Any.one(hr:rH ops listed=[i])(hi:ops[i]? =some o)(hw:iM ops (look ρ) o true)(hd:iy o.dst x.n=true)(DZ:∀c,o.op≠ .defer c)
  (H:∀e:Operand->Value,(∀y v,ev ρ y=some v->e y=v)->LQ x o e F fun v F'=>(lastT ops i=true\/aC L F')/\Any x ops L fuel (listed||| 2 ^ i) Q (put ρ o.dst v) ds F'):Any x ops L (fuel+1) listed Q ρ ds F:=by
 refine⟨(fun h=>by rw[h]at hr;cases hr),fun j hj=>?_⟩;have:=uf.2 hj;rw[hr]at this;obtain rfl:j=i:=by simpa using this
 refine⟨o,hi,hd,DZ,.inl ⟨hw,fun e he=>?_⟩⟩;refine(H e fun y v hy=>he y v (by rwa[t_])).mono fun v F' h=>⟨h.1,?_⟩
 rw[GH];exact h.2

theorem Any.last{A' B:ah}(hr:rH ops listed=[i])(hi:ops[i]? =some o)(hl:lastT ops i=true)(hd:iy o.dst x.n=true)(DZ:∀c,o.op≠ .defer c)(hp:(A++B).Perm F)
  (ha:∀B' Q gW ds rest,look gW=look ρ->aA x ops rest Q (put gW o.dst v) ds (A'++B')->aA x ops (i::rest) Q gW ds (A++B')) (H:Any x ops L fuel (listed||| 2 ^ i) Q (put ρ o.dst v) ds (A'++B)):Any x ops L (fuel+1) listed Q ρ ds F:=by
 refine⟨(fun h=>by rw[h]at hr;cases hr),fun j hj=>?_⟩;have:=uf.2 hj;rw[hr]at this;obtain rfl:j=i:=by simpa using this
 refine⟨o,hi,hd,DZ,.inr (.inr ⟨hl,v,A,A',B,hp,ha,.inl hl,?_⟩)⟩;rw[GH];exact H

theorem Any.two(hr:rH ops listed=[i,j])(Hi:opT x ops i (fun ε' F'=>(lastT ops i=true\/aC L F')/\J7 x ops (aC L) (fin Q ds) fuel (listed||| 2 ^ i) ε' F') (look ρ) F)
  (Hj:opT x ops j (fun ε' F'=>(lastT ops j=true\/aC L F')/\J7 x ops (aC L) (fin Q ds) fuel (listed||| 2 ^ j) ε' F') (look ρ) F):Any x ops L (fuel+1) listed Q ρ ds F:=by
 refine⟨(fun h=>by rw[h]at hr;cases hr),fun k hk=>?_⟩;have:=uf.2 hk;rw[hr]at this;rcases(by simpa using this:k=i\/k=j)with rfl | rfl
 ·exact Hi
 exact Hj

theorem opT.op(hi:ops[i]? =some o)(hw:iM ops (look ρ) o true)(hd:iy o.dst x.n=true)(DZ:∀c,o.op≠ .defer c)
  (H:∀e:Operand->Value,(∀y v,ev ρ y=some v->e y=v)->LQ x o e F fun v F'=>(lastT ops i=true\/aC L F')/\Any x ops L fuel (listed||| 2 ^ i) Q (put ρ o.dst v) ds F'):
  opT x ops i (fun ε' F'=>(lastT ops i=true\/aC L F')/\J7 x ops (aC L) (fin Q ds) fuel (listed||| 2 ^ i) ε' F') (look ρ) F:=by
 refine⟨o,hi,hd,DZ,.inl ⟨hw,fun e he=>?_⟩⟩;refine(H e fun y v hy=>he y v (by rwa[t_])).mono fun v F' h=>⟨h.1,?_⟩
 rw[GH];exact h.2
end rules
class TD(P:Program)(t:TypeId)(d:outParam TypeDesc):Prop where
  out:P.underlying t=some d
class TI(P:Program)(t:TypeId)(size bytes:outParam Nat)(zero:outParam Value)(zc:outParam (Array Value)):Prop where
  eq:(P.info? t).map (fun i=>(i.size,i.bytes,i.zero))=some (size,bytes,some zero)
  cells:zero.cells=zc
theorem TI.out{t:Nat}{z:Value}(i:TI P t s b z zc):∃j,P.info? t=some j/\j.size=s/\j.bytes=b/\j.zero=some z/\z.cells=zc:=by
  obtain⟨j,h1,h2⟩:=jR.1 i.eq;simp only[Prod.mk.injEq]at h2;exact⟨j,h1,h2.1,h2.2.1,h2.2.2,i.cells⟩
def ael:TypeDesc->Bool
  | .struct _ | .array _ _=>true
  | _=>false
class SC(P:Program)(t:TypeId):Prop where
  eq:(P.underlying t).map ael=some false
theorem SC.out(i:SC P t):∃d,P.underlying t=some d/\(∀fs,d≠ .struct fs)/\(∀n e,d≠ .array n e):=by
  obtain⟨d,h1,h2⟩:=jR.1 i.eq;exact⟨d,h1,(fun fs e=>by subst e;cases h2),(fun n e e'=>by subst e';cases h2)⟩
class AG(P:Program)(t:TypeId)(n:outParam Nat):Prop where
  eq:(P.underlying t).map ael=some true
  size:(P.info? t).map (·.size)=some n
theorem AG.out{t n:Nat}(i:AG P t n):∃d j,P.underlying t=some d/\((∃fs,d= .struct fs)\/∃m e,d= .array m e)/\P.info? t=some j/\j.size=n:=by
  obtain⟨d,h1,h2⟩:=jR.1 i.eq;obtain⟨j,h3,h4⟩:=jR.1 i.size;refine⟨d,j,h1,?_,h3,h4⟩
  cases d <;>first | exact .inl ⟨_,rfl⟩ | exact .inr ⟨_,_,rfl⟩ | cases h2
def ald(P:Program)(f:Nat):TypeDesc->Option (Nat×TypeId×Option Nat)
  | .struct fs=>(fs[f]?).map fun fl=>(fl.offset,fl.type,(P.info? fl.type).map (·.size))
  | _=>none
class FA(P:Program)(s f:Nat)(off:outParam Nat)(ft:outParam TypeId):Prop where
  eq:∃n,(P.underlying s).bind (ald P f)=some (off,ft,some (n+1))
theorem FA.out{f off:Nat}(i:FA P s f off ft):∃fs fl j,P.underlying s=some (.struct fs)/\fs[f]? =some fl/\fl.offset=off/\fl.type=ft/\P.info? ft=some j/\j.size≠0:=by
  obtain⟨n,h⟩:=i.eq;obtain⟨d,h1,h2⟩:=Option.bind_eq_some_iff.1 h
  cases d with
  | struct fs=>
    obtain⟨fl,h3,h4⟩:=jR.1 h2;simp only[Prod.mk.injEq]at h4;obtain⟨j,h5,h6⟩:=jR.1 h4.2.2;exact⟨fs,fl,j,h1,h3,h4.1,h4.2.1,h4.2.1▸h5,aj⟩
  | _=>cases h2
class FB(P:Program)(f:FuncId):Prop where
  eq:(P.funcs[f]?).map (fun fn=>(fn.name== "runtime.NumGoroutine",fn.body.isNone))=some (false,false)
theorem FB.out(i:FB P f):∃fn,P.funcs[f]? =some fn∧(fn.name== "runtime.NumGoroutine")=false∧fn.body.isNone=false:=by
  obtain⟨fn,h1,h2⟩:=jR.1 i.eq;simp only[Prod.mk.injEq]at h2;exact⟨fn,h1,h2.1,h2.2⟩

def PG(h:Hp)(S:ah->Prop)(b:Nat)(o:Obj):Prop:=h b=some o\/∀F,S F->(b,o)∈F
theorem PG.look{o:Obj}(H:PG h S b o)(hS:S F)(hE:Ext h h'):LP h' F b o:=H.imp (hE.1 b o) fun x=>x F hS

def Yv(x:Cx)(S:ah->Prop)(ρ:Env)(o:Oper)(v:Value):Prop:=
  ∀e:Operand->Value,(∀y v,ev ρ y=some v->e y=v)->∀F,S F->∀h',Ext x.h h'->tr x.P h' (execOp e o) F fun nx F'=>nx= .value v/\F'=F

def fB(o:Op):Bool:=match o with | .defer _=>false | _=>true
theorem kN{o:Op}(h:fB o=true):∀c,o≠ .defer c:=by rintro c rfl;cases h

section rules
variable{x:Cx}{Q:fO}{ρ:Env}{ds:List Deferred}{F:ah}{ops:Array Oper}{S:ah->Prop}{i:Nat}{rest:List Nat}{o:Oper}{v:Value}
theorem aA.quiet(H:aA x ops rest Q (put ρ o.dst v) ds F)(ho:ops[i]? =some o)(hw:gY ops ρ o)(hd:iy o.dst x.n=true)(hn:fB o.op=true)(hy:Yv x (· =F) ρ o v):aA x ops (i::rest) Q ρ ds F:=
  aA.op ho hw hd (kN hn) fun e he=>⟨F,[],by simp,fun h' hE _=>qg (hy e he F O h' hE) fun nx F' ⟨e1,e2⟩=>by subst e1 e2;simpa[tZ]using H⟩

theorem Any.quiet{L:ah}(H:Any x ops L fuel (listed||| 2 ^ i) Q (put ρ o.dst v) ds F)(hr:Oo ops listed i=true)(hf:Fb ops listed i=true)(hi:ops[i]? =some o)(hs:LW ops=true)(hw:iM ops (look ρ) o true)
    (hd:iy o.dst x.n=true) (hn:fB o.op=true) (hS:aC L F) (hy:Yv x (aC L) ρ o v):Any x ops L (fuel+1) listed Q ρ ds F:=
  Any.take hi hs hf hr hd (kN hn) hS (.inl ⟨hw,fun e he F hF h' hE=>hy e (fun y v hv=>he y v (by rwa[t_])) F hF h' hE⟩) H

theorem Any.pass{L:ah}(H:Any x ops L fuel (listed||| 2 ^ i) Q (put ρ o.dst undef) ds F)(hr:Oo ops listed i=true)(hf:Fb ops listed i=true)(hi:ops[i]? =some o)(hs:LW ops=true)(hw:iM ops (look ρ) o false)
    (hd:iy o.dst x.n=true) (hn:fB o.op=true) (hS:aC L F):Any x ops L (fuel+1) listed Q ρ ds F:=
  Any.take hi hs hf hr hd (kN hn) hS (.inr ⟨hw,O⟩) H

theorem xO(ho:o.op= .move y)(hy:ev ρ y=some v):Yv x S ρ o v:=fun e he F _ h' hE=>by
  simp only[execOp,ho,he y v hy];exact⟨O,O⟩
theorem GI(ho:o.op= .assign y)(hy:ev ρ y=some v):Yv x S ρ o v:=fun e he F _ h' hE=>by
  simp only[execOp,ho,he y v hy];exact⟨O,O⟩
theorem QO{c b:Operand}(ho:o.op= .pick c a b)(hc:ev ρ c=some (.bool true))(hy:ev ρ a=some v):Yv x S ρ o v:=fun e he F _ h' hE=>by
  simp only[execOp,ho,he c _ hc,he a v hy];exact⟨O,O⟩
theorem QS{c b:Operand}(ho:o.op= .pick c a b)(hc:ev ρ c=some (.bool false))(hy:ev ρ b=some v):Yv x S ρ o v:=fun e he F _ h' hE=>by
  simp only[execOp,ho,he c _ hc,he b v hy];exact⟨O,O⟩

theorem rJ{a:Addr}(ho:o.op= .nilCheck y)(hy:ev ρ y=some (.pointer (some a))):Yv x S ρ o (.pointer (some a)):=fun e he F _ h' hE=>by
  simp only[execOp,ho,he y _ hy];exact⟨O,O⟩
theorem oZ{a b:Array Value}(ho:o.op= .nilCheck y)(hy:ev ρ y=some (.func (.func f) a b)):Yv x S ρ o (.func (.func f) a b):=fun e he F _ h' hE=>by
  simp only[execOp,ho,he y _ hy];exact⟨O,O⟩

theorem bind_eq(s:Sem α)(f:α->Sem β):(s >>=f)=s.bind f:=rfl
theorem au(a:α):(pure a:Sem α)= .pure a:=rfl
theorem bind_pure(a:α)(f:α->Sem β):(Sem.pure a).bind f=f a:=rfl
theorem bind_assoc{γ:Type}(s:Sem α)(f:α->Sem β)(g:β->Sem γ):(s.bind f).bind g=s.bind fun a=>(f a).bind g:=by
  induction s with
  | pure a=>rfl
  | load m a k ih=>simp only[Sem.bind,ih]
  | store m a v k ih=>simp only[Sem.bind,ih]
  | new o k ih=>simp only[Sem.bind,ih]
  | shape r k ih=>simp only[Sem.bind,ih]
  | freeze a n k ih=>simp only[Sem.bind,ih]
  | frozen a k ih=>simp only[Sem.bind,ih]
  | getObj r k ih=>simp only[Sem.bind,ih]
  | setObj r o k ih=>simp only[Sem.bind,ih]
  | choose q k ih=>simp only[Sem.bind,ih]
  | sys c k ih=>simp only[Sem.bind,ih]
  | program k ih=>simp only[Sem.bind,ih]
  | mark m k ih=>simp only[Sem.bind,ih]
  | halt h=>rfl

section eqs
variable{P:Program}{h:Hp}{β:Type}
theorem o7{f:Program->Sem β}{Q:β->ah->Prop}:tr P h (program.bind f) F Q=tr P h (f P) F Q:=rfl
theorem aF{d:TypeDesc}[i:TD P t d]{f:TypeDesc->Sem β}{Q:β->ah->Prop}:tr P h ((underlying t).bind f) F Q=tr P h (f d) F Q:=by
  simp only[underlying,program,bind_eq,au,Sem.bind,tr,i.out]
theorem iO{j:TypeInfo}(hj:P.info? t=some j){f:TypeInfo->Sem β}{Q:β->ah->Prop}:tr P h ((typeInfo t).bind f) F Q=tr P h (f j) F Q:=by
  simp only[typeInfo,program,bind_eq,au,Sem.bind,tr,hj]
theorem fF{t:Nat}{z:Value}[i:TI P t s b z zc]{f:Nat->Sem β}{Q:β->ah->Prop}:tr P h ((sizeOf t).bind f) F Q=tr P h (f s) F Q:=by
  obtain⟨j,h1,h2,_⟩:=i.out;simp only[sizeOf,bind_eq,au,bind_assoc,iO h1,bind_pure,h2]
theorem jQ{t:Nat}{z:Value}[i:TI P t s b z zc]{f:Value->Sem β}{Q:β->ah->Prop}:tr P h ((zeroValue t).bind f) F Q=tr P h (f z) F Q:=by
  obtain⟨j,h1,_,_,h2,_⟩:=i.out;simp only[zeroValue,bind_eq,au,bind_assoc,iO h1,bind_pure,h2]
theorem wP{t n:Nat}[i:AG P t n]{f:Nat->Sem β}{Q:β->ah->Prop}:tr P h ((sizeOf t).bind f) F Q=tr P h (f n) F Q:=by
  obtain⟨d,j,_,_,h1,h2⟩:=i.out;simp only[sizeOf,bind_eq,au,bind_assoc,iO h1,bind_pure,h2]
theorem Ot{t n:Nat}[i:AG P t n]{f:Bool->Sem β}{Q:β->ah->Prop}:tr P h ((isAgg t).bind f) F Q=tr P h (f true) F Q:=by
  obtain⟨d,j,h1,h2,_⟩:=i.out;have:TD P t d:=⟨h1⟩
  simp only[isAgg,bind_eq,au,bind_assoc,aF];rcases h2 with⟨fs,rfl⟩ | ⟨m,e,rfl⟩ <;>rfl
theorem LX[i:SC P t]{f:Bool->Sem β}{Q:β->ah->Prop}:tr P h ((isAgg t).bind f) F Q=tr P h (f false) F Q:=by
  obtain⟨d,h1,h2,h3⟩:=i.out;have:TD P t d:=⟨h1⟩
  simp only[isAgg,bind_eq,au,bind_assoc,aF]
  cases d <;>first | rfl | exact absurd rfl (h2 _) | exact absurd rfl (h3 _ _)
end eqs
theorem kF{a:Addr}(h:a.spot=none)(n:Nat):a.add n=⟨a.block,a.off+n,none⟩:=by
  obtain⟨b,o,s⟩:=a;simp only at h;subst h;unfold Addr.add;split <;>simp_all

theorem Yd{off:Nat}{Q:Value->ah->Prop}(hl:LP h F b (.cells c E fz))(hc:c[off]? =some u)(H:Q u F):tr P h (load ⟨b,off,none⟩) F Q:=
  ⟨O,O,u,.inl ⟨c,E,fz,hl,hc⟩,H⟩
theorem ahY{off:Nat}{Q:Value->ah->Prop}(hl:LP h F b (bn c po))(iK:off≠po)(hc:c[off]? =some u)(H:Q u F):tr P h (load ⟨b,off,none⟩) F Q:=
  ⟨O,O,u,.inr ⟨c,po,hl,iK,hc⟩,H⟩

theorem jL{P:Program}{h:Hp}{b off:Nat}{c:Array Value}{E:TypeId}{fz:Nat×Nat}(hl:LP h F b (.cells c E fz)):∀(n i:Nat) (acc:Array Value) {Q:Array Value->ah->Prop},off+i+n<=c.size->Q (acc++c.extract (off+i) (off+i+n)) F->tr P h (loadCellsFrom ⟨b,off,none⟩ i n acc) F Q
  | 0,i,acc,Q,_,H=>by
    have e:c.extract (off+i) (off+i+0)= #[]:=by simp;omega
    rw[e,Array.append_empty]at H;exact H
  | n+1,i,acc,Q,hn,H=>by
    have fK:off+i<c.size:=by omega
    simp only[loadCellsFrom,kF,bind_eq];refine cu (Yd hl (Array.getElem?_eq_getElem fK) ?_);refine jL hl n (i+1) _ aj ?_
    have e:acc.push c[off+i]++c.extract (off+(i+1)) (off+(i+1)+n)=acc++c.extract (off+i) (off+i+(n+1)):=by
      apply Array.ext
      · simp;omega
      intro j h1 h2;simp only[Array.getElem_append,Array.size_push,Array.getElem_extract,Array.getElem_push];by_cases ha:j<acc.size
      · have hb:j<acc.size+1:=by omega
        simp only[ha,hb,dif_pos]
      by_cases hb:j<acc.size+1
      · have:j=acc.size:=by omega
        subst this;simp
      simp only[ha,hb,dif_neg,not_false_eq_true]
      congr 1;omega
    rw[e];exact H

theorem acS{off:Nat}(ho:o.op= .load t a)[SC x.P t](ha:ev ρ a=some (.pointer (some ⟨b,off,none⟩)))(hl:PG x.h S b (.cells c E fz))(hc:c[off]? =some v):Yv x S ρ o v:=fun e he F hF h' hE=>by
  simp only[execOp,ho,he a _ ha,Instr.loadAt,Instr.sureAddr,loadVar,bind_eq,au,bind_assoc,bind_pure,LX,eU,if_false];exact cu (Yd (hl.look hF hE) hc ⟨O,O⟩)

theorem aem{off:Nat}(ho:o.op= .load t a)[SC x.P t](ha:ev ρ a=some (.pointer (some ⟨b,off,none⟩)))(hl:PG x.h S b (bn c po))(iK:off≠po)(hc:c[off]? =some v):Yv x S ρ o v:=fun e he F hF h' hE=>by
  simp only[execOp,ho,he a _ ha,Instr.loadAt,Instr.sureAddr,loadVar,bind_eq,au,bind_assoc,bind_pure,LX,eU,if_false];exact cu (ahY (hl.look hF hE) iK hc ⟨O,O⟩)

theorem II{t n:Nat}{off:Nat}(ho:o.op= .load t a)[AG x.P t n](ha:ev ρ a=some (.pointer (some ⟨b,off,none⟩)))(hl:PG x.h S b (.cells c E fz))(hn:off+n<=c.size)(hv:c.extract off (off+n)=vs):Yv x S ρ o (.agg vs):=fun e he F hF h' hE=>by
  simp only[execOp,ho,he a _ ha,Instr.loadAt,Instr.sureAddr,loadVar,bind_eq,au,bind_assoc,bind_pure,Ot,if_true,wP,loadCells];refine cu (jL (hl.look hF hE) n 0 #[] aj ?_);simp[tr,hv]

theorem o8{f J8:Nat}{off:Nat}(ho:o.op= .fieldAddr s a f)[i:FA x.P s f J8 ft](ha:ev ρ a=some (.pointer (some ⟨b,off,none⟩))):Yv x S ρ o (.pointer (some ⟨b,off+J8,none⟩)):=fun e he F hF h' hE=>by
  obtain⟨fs,fl,j,h1,h2,h3,h4,h5,h6⟩:=i.out;have hu:TD x.P s (.struct fs):=⟨h1⟩
  subst h4;simp only[execOp,ho,he a _ ha,Instr.fieldAt,Instr.sureAddr,fieldPlace,sizeOf,bind_eq,au,bind_assoc,bind_pure,aF,h2,iO h5,if_neg h6,kF,h3];exact⟨O,O⟩

theorem GK{t E:Nat}{z:Value}{off len:Nat}{n:Int}(ho:o.op= .indexAddr t a ix)[TD x.P t (.slice E)][TI x.P E s wO z zc](ha:ev ρ a=some (.slice (some ⟨b,off,none⟩) len cap))(hi:ev ρ ix=some (.int k n))(h0:0<=n)(h1:n<len):
    Yv x S ρ o (.pointer (some ⟨b,off+n.toNat*s,none⟩)):=fun e he F hF h' hE=>by
  simp only[execOp,ho,he a _ ha,he ix _ hi,Instr.indexAt,asIntOf,bind_eq,au,bind_assoc,bind_pure,aF,h0,h1,and_self,if_true,fF,kF];exact⟨O,O⟩
theorem LZ{t E:Nat}{z:Value}{off len:Nat}{n:Nat}(ho:o.op= .indexAddr t a ix)[TD x.P t (.slice E)][TI x.P E s wO z zc](ha:ev ρ a=some (.slice (some ⟨b,off,none⟩) len cap))(hi:ev ρ ix=some (.int k (n:Int)))(h1:n<len):
    Yv x S ρ o (.pointer (some ⟨b,off+n*s,none⟩)):=GK ho ha hi aj aj
theorem D9{t E:Nat}{z:Value}{off:Nat}{n:Int}(ho:o.op= .indexAddr t a ix)[TD x.P t (.array m E)][TI x.P E s wO z zc](ha:ev ρ a=some (.pointer (some ⟨b,off,none⟩)))(hi:ev ρ ix=some (.int k n))(h0:0<=n)(h1:n<m):
    Yv x S ρ o (.pointer (some ⟨b,off+n.toNat*s,none⟩)):=fun e he F hF h' hE=>by
  simp only[execOp,ho,he a _ ha,he ix _ hi,Instr.indexAt,Instr.sureAddr,asIntOf,bind_eq,au,bind_assoc,bind_pure,aF,h0,h1,and_self,if_true,fF,kF];exact⟨O,O⟩

theorem JJ{t E:Nat}{z:Value}{off:Nat}{n:Nat}(ho:o.op= .indexAddr t a ix)[TD x.P t (.array m E)][TI x.P E s wO z zc](ha:ev ρ a=some (.pointer (some ⟨b,off,none⟩)))(hi:ev ρ ix=some (.int k (n:Int)))(h1:n<m):
    Yv x S ρ o (.pointer (some ⟨b,off+n*s,none⟩)):=D9 ho ha hi aj aj

theorem yS[SC P t]{off:Nat}{f:Value->Sem β}{Q:β->ah->Prop}(hc:cs[off]? =some u):tr P h ((part t cs off).bind f) F Q=tr P h (f u) F Q:=by
  simp only[part,bind_eq,au,bind_assoc,LX,eU,if_false,hc,bind_pure]
theorem yT{t n:Nat}[AG P t n]{off:Nat}{f:Value->Sem β}{Q:β->ah->Prop}:tr P h ((part t cs off).bind f) F Q=tr P h (f (.agg (cs.extract off (off+n)))) F Q:=by
  simp only[part,bind_eq,au,bind_assoc,Ot,if_true,wP,bind_pure]

theorem ale{t f off:Nat}(ho:o.op= .field t a f)[i:FA x.P t f off ft][SC x.P ft](ha:ev ρ a=some (.agg cs))(hc:cs[off]? =some v):Yv x S ρ o v:=fun e he F hF h' hE=>by
  obtain⟨fs,fl,j,h1,h2,h3,h4,h5,h6⟩:=i.out;have hu:TD x.P t (.struct fs):=⟨h1⟩
  subst h4;simp only[execOp,ho,he a _ ha,Instr.field,asAgg,bind_eq,au,bind_assoc,bind_pure,aF,h2,h3,yS hc];exact⟨O,O⟩
theorem ahZ{t f off n:Nat}(ho:o.op= .field t a f)[i:FA x.P t f off ft][AG x.P ft n](ha:ev ρ a=some (.agg cs))(hc:cs.extract off (off+n)=vs):Yv x S ρ o (.agg vs):=fun e he F hF h' hE=>by
  obtain⟨fs,fl,j,h1,h2,h3,h4,h5,h6⟩:=i.out;have hu:TD x.P t (.struct fs):=⟨h1⟩
  subst h4;simp only[execOp,ho,he a _ ha,Instr.field,asAgg,bind_eq,au,bind_assoc,bind_pure,aF,h2,h3,yT,hc];exact⟨O,O⟩
theorem QT{t E:Nat}{z:Value}{n:Int}(ho:o.op= .index t a ix)[TD x.P t (.array m E)][TI x.P E s wO z zc][SC x.P E](ha:ev ρ a=some (.agg cs))(hi:ev ρ ix=some (.int k n))(h0:0<=n)(h1:n<m)(hc:cs[n.toNat*s]? =some v):Yv x S ρ o v:=fun e he F hF h' hE=>by
  simp only[execOp,ho,he a _ ha,he ix _ hi,Instr.index,asIntOf,bind_eq,au,bind_assoc,bind_pure,aF,h0,h1,and_self,if_true,fF,yS hc];exact⟨O,O⟩
theorem L6{t E n':Nat}{z:Value}{n:Int}(ho:o.op= .index t a ix)[TD x.P t (.array m E)][TI x.P E s wO z zc][AG x.P E n'](ha:ev ρ a=some (.agg cs))(hi:ev ρ ix=some (.int k n))(h0:0<=n)(h1:n<m)(hc:cs.extract (n.toNat*s) (n.toNat*s+n')=vs):Yv x S ρ o (.agg vs):=fun e he F hF h' hE=>by
  simp only[execOp,ho,he a _ ha,he ix _ hi,Instr.index,asIntOf,bind_eq,au,bind_assoc,bind_pure,aF,h0,h1,and_self,if_true,fF,yT,hc];exact⟨O,O⟩

theorem ug{op:BinOp}{a b:Int}(ho:o.op= .binOp op t y z t')(hy:ev ρ y=some (.int k a))(hz:ev ρ z=some (.int k' b))(h:binOp op t (.int k a) (.int k' b)= .pure u):Yv x S ρ o u:=fun e he F hF h' hE=>by
  have hg:eqGuard op t y z (.int k a) (.int k' b)= .pure ():=by
    unfold eqGuard;split <;>rfl
  simp only[execOp,ho,he y _ hy,he z _ hz,hg,bind_eq,au,bind_assoc,bind_pure,h];exact⟨O,O⟩

theorem AA{n:Int}(h0: -9223372036854775808<=n)(h1:n<=9223372036854775807):IntKind.i64.wrap n=n:=IntWalk.i64_in n ⟨h0,h1⟩

theorem anv{a b:Int}(ho:o.op= .binOp .add t y z t')(hy:ev ρ y=some (.int .i64 a))(hz:ev ρ z=some (.int .i64 b))(h0: -9223372036854775808<=a+b)(h1:a+b<=9223372036854775807):Yv x S ρ o (.int .i64 (a+b)):=
  ug ho hy hz (by show Sem.pure _=_;rw[AA h0 h1])
theorem anw{a b:Int}(ho:o.op= .binOp .sub t y z t')(hy:ev ρ y=some (.int .i64 a))(hz:ev ρ z=some (.int .i64 b))(h0: -9223372036854775808<=a-b)(h1:a-b<=9223372036854775807):Yv x S ρ o (.int .i64 (a-b)):=
  ug ho hy hz (by show Sem.pure _=_;rw[AA h0 h1])
theorem RU{a b:Int}(ho:o.op= .binOp .add t y z t')(hy:ev ρ y=some (.int k a))(hz:ev ρ z=some (.int k b)):Yv x S ρ o (.int k (k.wrap (a+b))):=
  ug ho hy hz (by cases k <;>rfl)
theorem Ou{a b:Int}(ho:o.op= .binOp .sub t y z t')(hy:ev ρ y=some (.int k a))(hz:ev ρ z=some (.int k b)):Yv x S ρ o (.int k (k.wrap (a-b))):=
  ug ho hy hz (by cases k <;>rfl)
theorem yU{a b:Int}(ho:o.op= .binOp .mul t y z t')(hy:ev ρ y=some (.int k a))(hz:ev ρ z=some (.int k b)):Yv x S ρ o (.int k (k.wrap (a*b))):=
  ug ho hy hz (by cases k <;>rfl)
theorem WG{a b:Int}(ho:o.op= .binOp .lss t y z t')(hy:ev ρ y=some (.int k a))(hz:ev ρ z=some (.int k b)):Yv x S ρ o (.bool (decide (a<b))):=
  ug ho hy hz (by cases k <;>rfl)
theorem aen{a b:Int}(ho:o.op= .binOp .leq t y z t')(hy:ev ρ y=some (.int k a))(hz:ev ρ z=some (.int k b)):Yv x S ρ o (.bool (decide (a<=b))):=
  ug ho hy hz (by cases k <;>rfl)
theorem WH{a b:Int}(ho:o.op= .binOp .gtr t y z t')(hy:ev ρ y=some (.int k a))(hz:ev ρ z=some (.int k b)):Yv x S ρ o (.bool (decide (b<a))):=
  ug ho hy hz (by cases k <;>rfl)
theorem aeo{a b:Int}(ho:o.op= .binOp .geq t y z t')(hy:ev ρ y=some (.int k a))(hz:ev ρ z=some (.int k b)):Yv x S ρ o (.bool (decide (b<=a))):=
  ug ho hy hz (by cases k <;>rfl)
theorem QU(a b:Int):(a==b)=decide (a=b):=by by_cases h:a=b <;>simp[h]
theorem yt{a b:Int}(ho:o.op= .binOp .eql t y z t')(hy:ev ρ y=some (.int k a))(hz:ev ρ z=some (.int k b)):Yv x S ρ o (.bool (decide (a=b))):=
  ug ho hy hz (by rw[<-QU];cases k <;>rfl)
theorem Fe{a b:Int}(ho:o.op= .binOp .neq t y z t')(hy:ev ρ y=some (.int k a))(hz:ev ρ z=some (.int k b)):Yv x S ρ o (.bool (decide (a≠b))):=
  ug ho hy hz (by
    have:decide (a≠b)=(a !=b):=by by_cases h:a=b <;>simp[h]
    rw[this];cases k <;>rfl)
theorem anx{a b:Int}(ho:o.op= .binOp .rem t y z t')(hy:ev ρ y=some (.int k a))(hz:ev ρ z=some (.int k b))(hb:b≠0):Yv x S ρ o (.int k (a.tmod b)):=
  ug ho hy hz (by simp only[binOp,Op.intDiv,if_neg hb];cases k <;>rfl)
theorem ar4{a b:Int}(ho:o.op= .binOp .quo t y z t')(hy:ev ρ y=some (.int k a))(hz:ev ρ z=some (.int k b))(hb:b≠0):Yv x S ρ o (.int k (k.wrap (a.tdiv b))):=
  ug ho hy hz (by simp only[binOp,Op.intDiv,if_neg hb];cases k <;>rfl)
theorem JK{a b:Int}(ho:o.op= .binOp .shl t y z t')(hy:ev ρ y=some (.int k a))(hz:ev ρ z=some (.int k' b))(hb:0<=b):Yv x S ρ o (.int k (k.wrap (a*2 ^ (min b.toNat k.bits)))):=
  ug ho hy hz (by
                     have:¬b<0:=by omega
                     simp only[binOp,Op.shift,if_neg this];rfl)
theorem AB{a b:Int}(ho:o.op= .binOp .shr t y z t')(hy:ev ρ y=some (.int k a))(hz:ev ρ z=some (.int k' b))(hb:0<=b):Yv x S ρ o (.int k (a.fdiv (2 ^ (min b.toNat k.bits)))):=
  ug ho hy hz (by
                     have:¬b<0:=by omega
                     simp only[binOp,Op.shift,if_neg this];rfl)
def bits(op:BinOp)(k:IntKind)(a b:Int):Int:=
  let x:=BitVec.ofInt k.bits a
  let y:=BitVec.ofInt k.bits b
  match op with
  | .and=>k.wrap (x&&&y).toNat
  | .or=>k.wrap (x||| y).toNat
  | .xor=>k.wrap (x ^^^ y).toNat
  | _=>k.wrap (x&&& ~~~y).toNat
theorem aep{a b:Int}(ho:o.op= .binOp .and t y z t')(hy:ev ρ y=some (.int k a))(hz:ev ρ z=some (.int k b)):Yv x S ρ o (.int k (bits .and k a b)):=ug ho hy hz (by cases k <;>rfl)
theorem ah0{a b:Int}(ho:o.op= .binOp .or t y z t')(hy:ev ρ y=some (.int k a))(hz:ev ρ z=some (.int k b)):Yv x S ρ o (.int k (bits .or k a b)):=ug ho hy hz (by cases k <;>rfl)
theorem WI{a b:Int}(ho:o.op= .binOp .xor t y z t')(hy:ev ρ y=some (.int k a))(hz:ev ρ z=some (.int k b)):Yv x S ρ o (.int k (bits .xor k a b)):=ug ho hy hz (by cases k <;>rfl)
theorem yV{a b:Int}(ho:o.op= .binOp .andNot t y z t')(hy:ev ρ y=some (.int k a))(hz:ev ρ z=some (.int k b)):Yv x S ρ o (.int k (bits .andNot k a b)):=ug ho hy hz (by cases k <;>rfl)

theorem PI{b:Bool}(ho:o.op= .unOp .not t y)(hy:ev ρ y=some (.bool b)):Yv x S ρ o (.bool (!b)):=fun e he F hF h' hE=>by
  simp only[execOp,ho,he y _ hy];exact⟨O,O⟩
theorem ar5{n:Int}(ho:o.op= .unOp .neg t y)(hy:ev ρ y=some (.int .i64 n))(h0: -9223372036854775807<=n)(h1:n<=9223372036854775807):Yv x S ρ o (.int .i64 (-n)):=fun e he F hF h' hE=>by
  have:IntKind.i64.wrap (0-n)= -n:=by rw[AA aj aj];omega
  simp only[execOp,ho,he y _ hy,Op.unary,Op.intArith,this];exact⟨O,O⟩
theorem GL{d:TypeDesc}{n:Int}(ho:o.op= .convert t t' y)[TD x.P t d][TD x.P t' (.int k')](hy:ev ρ y=some (.int k n)):Yv x S ρ o (.int k' (k'.wrap n)):=fun e he F hF h' hE=>by
  simp only[execOp,ho,he y _ hy,convert,Conv.intToInt,bind_eq,au,bind_assoc,bind_pure,aF]
  cases d <;>exact⟨rfl,rfl⟩

theorem Ye{d:TypeDesc}(ho:o.op= .makeInterface t y)[TD x.P t d](hd:∀ms,d≠ .interface ms)(hy:ev ρ y=some u):Yv x S ρ o (.iface t u):=fun e he F hF h' hE=>by
  simp only[execOp,ho,he y _ hy,Instr.makeInterface,bind_eq,au,bind_assoc,bind_pure,aF]
  cases d <;>first | exact⟨rfl,rfl⟩ | exact absurd rfl (hd _)
def jv(ρ:Env):List Operand->Option (List Value)
  | []=>some []
  | y::r=>match ev ρ y,jv ρ r with | some v,some vs=>some (v::vs) | _,_=>none
theorem oK{e:Operand->Value}(he:∀y v,ev ρ y=some v->e y=v):∀{l:List Operand} {vs:List Value},jv ρ l=some vs->l.map e=vs
  | [],vs,h=>by cases h;rfl
  | y::r,vs,h=>by
    unfold jv at h;split at h
    · rename_i v vs' h1 h2;cases h;simp[he y v h1,oK he h2]
    cases h
theorem Yf{f:Go.Fn}{fi ca:List Operand}{vs us:List Value}(ho:o.op= .makeFunc f fi.toArray ca.toArray)(h1:jv ρ fi=some vs)(h2:jv ρ ca=some us):Yv x S ρ o (.func f vs.toArray us.toArray):=fun e he F hF h' hE=>by
  simp only[execOp,ho,Instr.makeFunc,List.map_toArray,oK he h1,oK he h2];exact⟨O,O⟩
theorem IJ{n:Nat}(ho:o.op= .extract y n)(hy:ev ρ y=some (.tuple vs))(hv:vs[n]? =some v):Yv x S ρ o v:=fun e he F hF h' hE=>by
  simp only[execOp,ho,he y _ hy,Instr.extract,hv];exact⟨O,O⟩

theorem aer{a:Option Addr}{n c:Nat}(ho:o.op= .call ⟨.builtin .len, #[y], #[t]⟩)[TD x.P t (.slice E)](hy:ev ρ y=some (.slice a n c)):Yv x S ρ o (.int .i64 n):=fun e he F hF h' hE=>by
  simp only[execOp,ho,resolve,invoke,builtin,Builtin.len_,List.map_toArray,dQ,List.map_nil,he y _ hy,List.getElem?_toArray,List.getElem?_cons_zero,bind_eq,au,bind_assoc,bind_pure,aF];exact⟨O,O⟩
theorem ar6{a:Option Addr}{n c:Nat}(ho:o.op= .call ⟨.builtin .cap, #[y], #[t]⟩)[TD x.P t (.slice E)](hy:ev ρ y=some (.slice a n c)):Yv x S ρ o (.int .i64 c):=fun e he F hF h' hE=>by
  simp only[execOp,ho,resolve,invoke,builtin,Builtin.cap_,List.map_toArray,dQ,List.map_nil,he y _ hy,List.getElem?_toArray,List.getElem?_cons_zero,bind_eq,au,bind_assoc,bind_pure,aF];exact⟨O,O⟩
theorem ZP{a b:Int}(ho:o.op= .call ⟨.builtin .min, #[y,z],ts⟩)(hy:ev ρ y=some (.int k a))(hz:ev ρ z=some (.int k b)):Yv x S ρ o (.int k (min a b)):=fun e he F hF h' hE=>by
  have:min a b=if b<a then b else a:=by split <;>omega
  rw[this];simp only[execOp,ho,resolve,invoke,builtin,Builtin.min_,List.map_toArray,dQ,List.map_nil,he y _ hy,he z _ hz];exact⟨O,O⟩
theorem aes{a b:Int}(ho:o.op= .call ⟨.builtin .max, #[y,z],ts⟩)(hy:ev ρ y=some (.int k a))(hz:ev ρ z=some (.int k b)):Yv x S ρ o (.int k (max a b)):=fun e he F hF h' hE=>by
  have:max a b=if b>a then b else a:=by split <;>omega
  rw[this];simp only[execOp,ho,resolve,invoke,builtin,Builtin.max_,List.map_toArray,dQ,List.map_nil,he y _ hy,he z _ hz];exact⟨O,O⟩
end rules
inductive L8(A:ah):ah->(ah->ah)->Prop
 | head {G:ah}:L8 A (A++G) (fun A'=>A'++G)
 | tail {y:Nat×Obj} {F:ah} {U:ah->ah} (h:L8 A F U):L8 A (y::F) (fun A'=>y::U A')
 | app {B:ah} {F:ah} {U:ah->ah} (h:L8 A F U):L8 A (B++F) (fun A'=>B++U A')
 | all:L8 A A (fun A'=>A')

theorem L8.perm{U:ah->ah}(h:L8 A F U):(A++U []).Perm F/\∀A',(U A').Perm (A'++U []):=by
 induction h with
 | head=>exact⟨by simp,fun A'=>by simp⟩
 | @tail y F U h ih=>exact⟨(List.perm_middle).trans (ih.1.cons y),fun A'=>((ih.2 A').cons y).trans List.perm_middle.symm⟩
 | @app B F U h ih=>
  have e:∀X:ah,(X++(B++U [])).Perm (B++(X++U [])):=fun X=>by
   rw[<-eF,<-eF];exact dK.append_right _
  exact⟨(e A).trans (ih.1.append_left B),fun A'=>((ih.2 A').append_left B).trans (e A').symm⟩
 | all=>exact⟨by simp,fun A'=>by simp⟩

inductive At(b:Nat)(o:Obj):ah->(Obj->ah)->Prop
 | head {G:ah}:At b o ((b,o)::G) (fun o'=>(b,o')::G)
 | tail {y:Nat×Obj} {F:ah} {U:Obj->ah} (h:At b o F U):At b o (y::F) (fun o'=>y::U o')
 | app {B:ah} {F:ah} {U:Obj->ah} (h:At b o F U):At b o (B++F) (fun o'=>B++U o')

theorem At.split{o:Obj}(h:At b o F U):∃F1 F2,F=F1++(b,o)::F2/\∀o',U o'=F1++(b,o')::F2:=by
 induction h with
 | @head G=>exact⟨[],G,rfl,fun _=>rfl⟩
 | @tail y F U h ih=>obtain⟨F1,F2,h1,h2⟩:=ih;exact⟨y::F1,F2,by rw[h1];rfl,fun o'=>by show y::U o'=_;rw[h2 o'];rfl⟩
 | @app B F U h ih=>obtain⟨F1,F2,h1,h2⟩:=ih;exact⟨B++F1,F2,by rw[h1,eF],fun o'=>by show B++U o'=_;rw[h2 o',eF]⟩

def Ef(x:Cx)(ρ:Env)(o:Oper)(F:ah)(R:Value->ah->Prop):Prop:=
 ∀e:Operand->Value,(∀y v,ev ρ y=some v->e y=v)->LQ x o e F fun v F'=>∃WE,WE.Perm F'/\R v WE

section rules
variable{x:Cx}{Q:fO}{ρ:Env}{ds:List Deferred}{F:ah}{ops:Array Oper}{L:ah}{i:Nat}{rest:List Nat}{o:Oper}{v:Value}{R:Value->ah->Prop}
theorem aA.Ql(H:Ef x ρ o F fun v F'=>aA x ops rest Q (put ρ o.dst v) ds F')(ho:ops[i]? =some o)(hw:gY ops ρ o)(hd:iy o.dst x.n=true)(hn:fB o.op=true):aA x ops (i::rest) Q ρ ds F:=
 aA.op ho hw hd (kN hn) fun e he=>(H e he).mono fun v F' ⟨WE,p,h⟩=>aA.perm p h

theorem Any.Ql(H:Ef x ρ o F fun v F'=>(lastT ops i=true\/aC L F')/\Any x ops L fuel (listed||| 2 ^ i) Q (put ρ o.dst v) ds F')(hr:rH ops listed=[i])(hi:ops[i]? =some o)(hw:iM ops (look ρ) o true)(hd:iy o.dst x.n=true)(hn:fB o.op=true):
  Any x ops L (fuel+1) listed Q ρ ds F:=
 Any.one hr hi hw hd (kN hn) fun e he=>(H e he).mono fun v F' ⟨WE,p,h1,h2⟩=>⟨h1.imp id (aC.perm p),Any.perm p h2⟩

theorem Any.Vp{i:Nat}{o o':Oper}(hr:rH ops listed=[i,j])(hi:ops[i]? =some o)(hj:ops[j]? =some o')(hw:iM ops (look ρ) o true)(hw':iM ops (look ρ) o' true)(hd:iy o.dst x.n=true)(IK:iy o'.dst x.n=true)(hn:fB o.op=true)(GN:fB o'.op=true)
  (H:Ef x ρ o F fun v F'=>(lastT ops i=true\/aC L F')/\Any x ops L fuel (listed||| 2 ^ i) Q (put ρ o.dst v) ds F')
  (H':Ef x ρ o' F fun v F'=>(lastT ops j=true\/aC L F')/\Any x ops L fuel (listed||| 2 ^ j) Q (put ρ o'.dst v) ds F'):Any x ops L (fuel+1) listed Q ρ ds F:=
 Any.two hr (opT.op hi hw hd (kN hn) fun e he=>(H e he).mono fun v F' ⟨WE,p,h1,h2⟩=>⟨h1.imp id (aC.perm p),Any.perm p h2⟩)
  (opT.op hj hw' IK (kN GN) fun e he=>(H' e he).mono fun v F' ⟨WE,p,h1,h2⟩=>⟨h1.imp id (aC.perm p),Any.perm p h2⟩)

theorem Ef.uY(H:∀e:Operand->Value,(∀y v,ev ρ y=some v->e y=v)->∀h',Ext x.h h'->tr x.P h' (execOp e o) F fun nx F'=>∃v,(nx= .value v\/nx= .skip/\v=undef)/\R v F'):Ef x ρ o F R:=fun e he=>
 ⟨F,[],by simp,fun h' hE _=>qg (H e he h' hE) fun nx F' ⟨v,h1,h2⟩=>by
  rcases h1 with rfl | ⟨rfl,rfl⟩ <;>exact⟨F',by simp,h2⟩⟩

theorem Ext.none(e:Ext h h')(hb:h' b=none):h b=none:=by
 cases hh:h b with
 | none=>rfl
 | some o=>rw[e.1 b o hh]at hb;cases hb

theorem D_{ob:Obj}{f:Nat->Sem β}{Q:β->ah->Prop}(H:∀r,h r=none->(∀o,(r,o)∉F)->tr P h (f r) ((r,ob)::F) Q)(hn:ob.isChan=false:=by rfl):tr P h ((newObj ob).bind f) F Q:=⟨fun e=>(by rw[hn]at e;cases e),H⟩

theorem Yg{t:Nat}{z:Value}(ho:o.op= .alloc t)[TI x.P t s b z zc](H:∀β,x.h β=none->(∀o,(β,o)∉F)->R (.pointer (some ⟨β,0,none⟩)) ((β,.cells zc t (0,0))::F)):Ef x ρ o F R:=
 Ef.uY fun e he h' hE=>by
  obtain⟨j,_,_,_,_,hz⟩:=TI.out (inferInstance:TI x.P t s b z zc);simp only[execOp,ho,Instr.alloc,newVar,newRow,bind_eq,au,bind_assoc,bind_pure,jQ,hz];exact D_ fun r h1 h2=>⟨_,.inl O,H r (hE.none h1) h2⟩

theorem anz(ho:o.op= .box t y)(hy:ev ρ y=some u)(hc:u.cells=cs)(H:∀β,x.h β=none->(∀o,(β,o)∉F)->R (.pointer (some ⟨β,0,none⟩)) ((β,.cells cs t (0,0))::F)):Ef x ρ o F R:=
 Ef.uY fun e he h' hE=>by
  simp only[execOp,ho,he y _ hy,Instr.box,newVar,newRow,bind_eq,au,bind_assoc,bind_pure,hc];exact D_ fun r h1 h2=>⟨_,.inl O,H r (hE.none h1) h2⟩
theorem aoP(ho:o.op= .box t y)(hy:ev ρ y=some (.agg cs))(H:∀β,x.h β=none->(∀o,(β,o)∉F)->R (.pointer (some ⟨β,0,none⟩)) ((β,.cells cs t (0,0))::F)):Ef x ρ o F R:=
 anz ho hy O H

theorem ZQ{off:Nat}{Q:Unit->ah->Prop}(h1:one u=true)(hl:At b (.cells c E (0,0)) F U)(hc:off<c.size)(H:Q () (U (.cells (c.setIfInBounds off u) E (0,0)))):tr P h (store ⟨b,off,none⟩ u) F Q:=by
 obtain⟨F1,F2,e1,e2⟩:=hl.split;refine⟨O,O,h1,c,E,0,0,F1,F2,e1,hc,by simp,?_⟩;rw[e2]at H;exact H

theorem GR(h:one u=true):u.cells= #[u]:=by cases u <;>first | rfl | cases h

theorem aeu{t s b':Nat}{z:Value}{off:Nat}(ho:o.op= .store t a y)[TI x.P t 1 b' z zc](ha:ev ρ a=some (.pointer (some ⟨b,off,none⟩)))(hy:ev ρ y=some u)(h1:one u=true)(hl:At b (.cells c E (0,0)) F U)(hc:off<c.size)
  (H:R undef (U (.cells (c.setIfInBounds off u) E (0,0)))):Ef x ρ o F R:=
 Ef.uY fun e he h' hE=>by
  simp only[execOp,ho,he a _ ha,he y _ hy,Instr.storeAt,Instr.sureAddr,storeVar,bind_eq,au,bind_assoc,bind_pure,fF,GR h1,List.size_toArray,gK,List.length_nil,Nat.zero_add,ne_eq,not_true_eq_false,if_false,storeCells,kF,Nat.add_zero];exact cu (ZQ h1 hl hc ⟨_,.inr ⟨O,O⟩,H⟩)

def gQ(c:Array Value)(off:Nat):List Value->Array Value
 | []=>c
 | u::r=>gQ (c.setIfInBounds off u) (off+1) r
def lC:List Value->Bool
 | []=>true
 | u::r=>one u&&lC r

theorem wQ:∀(vs:List Value) (c:Array Value) (off:Nat),(gQ c off vs).size=c.size
 | [],c,off=>rfl
 | u::r,c,off=>by simp[gQ,wQ r]

theorem RV:∀(vs:List Value) (c:Array Value) (off j:Nat),off+vs.length<=c.size->(gQ c off vs)[j]? =if off<=j/\j<off+vs.length then vs[j-off]? else c[j]?
 | [],c,off,j,h=>by
  have h1:¬(off<=j/\j<off+0):=by omega
  simp only[gQ,List.length_nil,h1,if_false]
 | u::r,c,off,j,h=>by
  simp only[gK]at h⊢;rw[gQ,RV r _ _ _ (by simp;omega),Array.getElem?_setIfInBounds];by_cases h1:off+1<=j/\j<off+1+r.length
  ·have h2:off<=j/\j<off+(r.length+1):=by omega
   simp only[h1,h2,and_self,if_true];have:j-off=(j- (off+1))+1:=by omega
   rw[this,List.getElem?_cons_succ]
  simp only[h1,if_false];by_cases h3:off=j
  ·subst h3;have h2:off<=off/\off<off+(r.length+1):=by omega
   have h4:off<c.size:=by omega
   simp[h2,h4]
  have h2:¬(off<=j/\j<off+(r.length+1)):=by omega
  simp only[h2,if_false,h3]

theorem RX{vs:List Value}(h:vs.length=c.size):gQ c 0 vs=vs.toArray:=by
 apply Array.ext_getElem?;intro j;rw[RV _ _ _ _ aj];by_cases hj:j<vs.length
 ·simp[hj]
 have h1:¬(0<=j/\j<0+vs.length):=by omega
 rw[if_neg h1,Array.getElem?_eq_none aj,List.getElem?_toArray,fM aj]

theorem l9{P:Program}{h:Hp}{b off:Nat}{E:TypeId}:∀(vs:List Value) (i:Nat) (c:Array Value) {F:ah} {U:Obj->ah} {Q:Unit->ah->Prop},lC vs=true->At b (.cells c E (0,0)) F U->off+i+vs.length<=c.size->Q () (U (.cells (gQ c (off+i) vs) E (0,0)))->tr P h (storeCells ⟨b,off,none⟩ vs i) F Q
 | [],i,c,F,U,Q,_,hl,_,H=>by
  obtain⟨F1,F2,e1,e2⟩:=hl.split;rw[gQ,e2,<-e1]at H;exact H
 | u::r,i,c,F,U,Q,hu,hl,hc,H=>by
  simp only[lC,Bool.and_eq_true]at hu;simp only[gK]at hc;obtain⟨F1,F2,e1,e2⟩:=hl.split;simp only[storeCells,kF,bind_eq];refine cu (ZQ hu.1 hl aj ?_)
  have hl':At b (.cells (c.setIfInBounds (off+i) u) E (0,0)) (U (.cells (c.setIfInBounds (off+i) u) E (0,0))) (fun o'=>F1++(b,o')::F2):=by
   rw[e2];exact .app .head
  refine l9 r (i+1) _ hu.2 hl' (by simp;omega) ?_;rw[e2]at H;exact H

theorem RY{t n:Nat}{off:Nat}(ho:o.op= .store t a y)[AG x.P t n](ha:ev ρ a=some (.pointer (some ⟨b,off,none⟩)))(hy:ev ρ y=some (.agg vs))(hn:vs.size=n)(h1:lC vs.toList=true)(hl:At b (.cells c E (0,0)) F U)(hc:off+n<=c.size)
  (H:R undef (U (.cells (gQ c off vs.toList) E (0,0)))):Ef x ρ o F R:=
 Ef.uY fun e he h' hE=>by
  have hs:(Value.agg vs).cells=vs:=rfl;simp only[execOp,ho,he a _ ha,he y _ hy,Instr.storeAt,Instr.sureAddr,storeVar,bind_eq,au,bind_assoc,bind_pure,wP,hs,hn,ne_eq,not_true_eq_false,if_false];refine cu (l9 vs.toList 0 c h1 hl (by simp;omega) ⟨_,.inr ⟨O,O⟩,by simpa using H⟩)
theorem ZR{t n:Nat}(ho:o.op= .store t a y)[AG x.P t n](ha:ev ρ a=some (.pointer (some ⟨b,0,none⟩)))(hy:ev ρ y=some (.agg vs))(hn:vs.size=n)(h1:lC vs.toList=true)(hl:At b (.cells c E (0,0)) F U)(hc:c.size=n)
  (H:R undef (U (.cells vs E (0,0)))):Ef x ρ o F R:=
 RY ho ha hy hn h1 hl aj (by rw[RX (by simp;omega)];simpa using H)

def ZT(P:Program):TypeDesc->Option (List (Nat×Option Nat))
 | .struct fs=>some (fs.toList.map fun fl=>(fl.offset,(P.info? fl.type).map (·.size)))
 | _=>none
class BP(P:Program)(t:TypeId)(pl:outParam (List (Nat×Nat))):Prop where
 eq:(P.underlying t).bind (ZT P)=some (pl.map fun p=>(p.1,some p.2))
theorem WJ{P:Program}{h:Hp}{F:ah}:∀{fs:List Field} {pl:List (Nat×Nat)} {Q:List (Nat×Nat)->ah->Prop},fs.map (fun fl=>(fl.offset,(P.info? fl.type).map (·.size)))=pl.map (fun p=>(p.1,some p.2))->Q pl F->tr P h (fs.mapM (m:=Sem) fun f=>do pure (f.offset,<-sizeOf f.type)) F Q
 | [],pl,Q,hp,H=>by
  have:pl=[]:=by cases pl <;>simp_all
  subst this;exact H
 | f::fs,[],Q,hp,H=>by simp at hp
 | f::fs,p::pl,Q,hp,H=>by
  simp only[dQ,List.cons.injEq,Prod.mk.injEq]at hp;obtain⟨⟨h1,h2⟩,h3⟩:=hp;obtain⟨j,h4,h5⟩:=jR.1 h2;have ih:=WJ (P:=P) (h:=h) (F:=F) (Q:=fun l F'=>Q (p::l) F') h3 H;rw[List.mapM_cons]
  have e1:∀{β:Type} (g:Nat×Nat->Sem β) (Q':β->ah->Prop),tr P h (g p) F Q'->tr P h ((do pure (f.offset,<-sizeOf f.type):Sem (Nat×Nat)).bind g) F Q':=by
   intro β g Q' hg;simp only[sizeOf,bind_eq,au,bind_assoc,bind_pure,iO h4,h1,h5];exact hg
  exact e1 _ _ (cu ih)
theorem BP.out{pl:List (Nat×Nat)}(i:BP P t pl):∃fs,P.underlying t=some (.struct fs)/\∀(h:Hp) (F:ah) (Q:Array (Nat×Nat)->ah->Prop),Q pl.toArray F->tr P h (fs.mapM fun f=>do pure (f.offset,<-sizeOf f.type)) F Q:=by
 obtain⟨d,h1,h2⟩:=Option.bind_eq_some_iff.1 i.eq
 cases d with
 | struct fs=>
  refine⟨fs,h1,fun h F Q H=>?_⟩;have e:fs=fs.toList.toArray:=by simp
  rw[e,List.mapM_toArray];simp only[map_eq_pure_bind,bind_eq,au];simp only[ZT,dY]at h2;exact cu (WJ h2 H)
 | _=>cases h2

theorem dw{t:Nat}{z:Value}{pl:List (Nat×Nat)}{vs:List Value}(ho:o.op= .build t parts.toArray)[bp:BP x.P t pl][TI x.P t s b z zc](hv:jv ρ (parts.map (·.2))=some vs)
  (hf:Instr.fill (fun i:Nat=>pl[i]?) zc ((parts.map (·.1)).zip vs)=some cs):Yv x S ρ o (.agg cs):=fun e he F hF h' hE=>by
 obtain⟨fs,hu,hm⟩:=BP.out bp;have:TD x.P t (.struct fs):=⟨hu⟩
 obtain⟨j,_,_,_,_,hz⟩:=TI.out (inferInstance:TI x.P t s b z zc)
 have hp:parts.map (fun(p:Nat×Operand)=>(p.1,e p.2))=(parts.map (·.1)).zip vs:=by
  rw[<-oK he hv,List.map_map];clear hf hv ho
  induction parts with
  | nil=>rfl
  | cons p r ih=>simp[ih]
 simp only[execOp,ho,Instr.build,List.map_toArray,bind_eq,au,bind_assoc,bind_pure,jQ,aF,hz];refine cu (hm h' F _ ?_);have e1:(fun i:Nat=>(pl.toArray)[i]?)=fun i:Nat=>pl[i]? :=by funext i;simp
 have hp':(parts.map fun x=>match x with | (i,y)=>(i,e y))=(parts.map (·.1)).zip vs:=hp;simp only[hp',e1,hf];exact⟨O,O⟩

theorem Ea{t E len:Nat}{z:Value}{vs:List Value}(ho:o.op= .buildSlice t len parts.toArray)[TD x.P t (.slice E)][TI x.P E s b z zc](hv:jv ρ (parts.map (·.2))=some vs)(hls:0<len*s)(hl:len*s<=2 ^ 24)
  (hf:Instr.fill (fun i=>some (i*s,s)) ((Array.range (len*s)).map (zc[· % zc.size]!)) ((parts.map (·.1)).zip vs)=some cs)
  (H:∀β,x.h β=none->(∀o,(β,o)∉F)->R (.slice (some ⟨β,0,none⟩) len len) ((β,.cells cs E (0,0))::F)):Ef x ρ o F R:=
 Ef.uY fun e he h' hE=>by
  obtain⟨j,_,_,_,_,hz⟩:=TI.out (inferInstance:TI x.P E s b z zc)
  have hp:(parts.map fun x=>match x with | (i,y)=>(i,e y))=(parts.map (·.1)).zip vs:=by
   rw[<-oK he hv,List.map_map];clear hf hv ho
   induction parts with
   | nil=>rfl
   | cons p r ih=>simp[ih]
  have h1:¬len*s>2 ^ 24:=by omega
  have h2:¬len*s=0:=by omega
  simp only[execOp,ho,Instr.buildSlice,newRow,List.map_toArray,bind_eq,au,bind_assoc,bind_pure,jQ,aF,fF,hz,if_neg h1,if_neg h2,hp,hf];exact D_ fun r h1 h2=>⟨_,.inl O,H r (hE.none h1) h2⟩
theorem Vq{t E:Nat}{z:Value}(ho:o.op= .buildSlice t 0 #[])[TD x.P t (.slice E)][TI x.P E s b z zc]
  (H:∀β,x.h β=none->(∀o,(β,o)∉F)->R (.slice (some ⟨β,0,none⟩) 0 0) ((β,.cells #[] E (0,0))::F)):Ef x ρ o F R:=
 Ef.uY fun e he h' hE=>by
  have h1:¬0*s>2 ^ 24:=by omega
  have h2:0*s=0:=by omega
  simp only[execOp,ho,Instr.buildSlice,newRow,bind_eq,au,bind_assoc,bind_pure,aF,fF,if_neg h1,if_pos h2,Array.map_empty,Instr.fill];refine D_ fun r h1 h2=>⟨_,.inl O,?_⟩
  have e:(Array.range (0*s)).map ((#[]:Array Value)[· % (#[]:Array Value).size]!)= #[]:=by simp
  rw[e];exact H r (hE.none h1) h2

end rules
section calls
variable{x:Cx}{ρ:Env}{F:ah}{o:Oper}{R:Value->ah->Prop}
theorem GU{main:aN}[FB P f]{args:Array Value}{R:Value->ah->Prop}(H:bG P main f args h F R):tr P h (callFunc f args) F (tZ P main h R):=by
 obtain⟨fn,h1,h2,h3⟩:=FB.out (inferInstance:FB P f);simp only[callFunc,bind_eq,au,o7,h1,h2,h3,eU,if_false];exact H

theorem gq{vs:List Value}{U:ah->ah}(ho:o.op= .call ⟨.value (.func f),args.toArray,ts⟩)[FB x.P f](hv:jv ρ args=some vs)(hs:L8 A F U)
  (H:∀h',Ext x.h h'->je (U []) h'->bG x.P x.main f vs.toArray h' A R') (K:∀v A',R' v A'->R v (U A')):Ef x ρ o F R:=fun e he=>
 ⟨A,U [],hs.perm.1,fun h' e1 e2=>by
  have e3:e (.func f)= .func (.func f) #[] #[]:=he _ _ O;simp only[execOp,ho,resolve,Deferred.ofValue,e3,bind_eq,au,bind_pure,invoke,List.map_toArray,oK he hv,List.append_toArray,List.nil_append,List.append_nil];exact GU (bG.mono (H h' e1 e2) fun v A' r=>⟨U A',hs.perm.2 A',K v A' r⟩)⟩

theorem oL{vs:List Value}(ho:o.op= .call ⟨.value (.func f),args.toArray,ts⟩)[FB x.P f](hv:jv ρ args=some vs)
  (H:∀h',Ext x.h h'->je F h'->bG x.P x.main f vs.toArray h' [] R') (K:∀v A',R' v A'->R v (A'++F)):Ef x ρ o F R:=
 gq ho hv (L8.head (A:=[]) (G:=F)) H K

def gG(P:Program)(main:aN)(fv:Value)(args:List Value)(h:Hp)(F:ah)(R:Value->ah->Prop):Prop:=
 ∃fn fi ca,fv= .func fn fi ca/\tr P h (invoke (.fn fn ca) (fi++args.toArray)) F (tZ P main h R)

theorem gG.mono{main:aN}{args:List Value}{R:Value->ah->Prop}(H:gG P main fv args h F R)(hr:∀v F,R v F->R' v F):gG P main fv args h F R':=by
 obtain⟨fn,fi,ca,h1,h2⟩:=H;exact⟨fn,fi,ca,h1,qg h2 fun _ _ y=>y.mono hr⟩

theorem gG.o9{main:aN}[FB P f]{fi ca:List Value}{args:List Value}{R:Value->ah->Prop}(H:bG P main f (fi++args++ca).toArray h F R):gG P main (.func (.func f) fi.toArray ca.toArray) args h F R:=by
 refine⟨_,_,_,O,?_⟩;simp only[invoke,List.append_toArray];exact GU H

theorem AL{vs:List Value}{U:ah->ah}(ho:o.op= .call ⟨.value y,args.toArray,ts⟩)(hy:ev ρ y=some fv)(hv:jv ρ args=some vs)(hs:L8 A F U)
  (H:∀h',Ext x.h h'->je (U []) h'->gG x.P x.main fv vs h' A R') (K:∀v A',R' v A'->R v (U A')):Ef x ρ o F R:=fun e he=>
 ⟨A,U [],hs.perm.1,fun h' e1 e2=>by
  obtain⟨fn,fi,ca,rfl,H'⟩:=H h' e1 e2;simp only[execOp,ho,resolve,Deferred.ofValue,he y _ hy,bind_eq,au,bind_pure,List.map_toArray,oK he hv];exact qg H' fun _ _ z=>z.mono fun v A' r=>⟨U A',hs.perm.2 A',K v A' r⟩⟩

class MV(P:Program)(t:TypeId)(name:String)(f:outParam FuncId):Prop where
 out:∀(h:Hp) (F:ah) (v:Value) (Q:FuncId×Value->ah->Prop),Q (f,v) F->tr P h (method (P.types.size+Made.depth) t v name) F Q

theorem ah2{name:String}{vs:List Value}{U:ah->ah}(ho:o.op= .call ⟨.invoke y name,args.toArray,ts⟩)(hy:ev ρ y=some (.iface t u))[mv:MV x.P t name f][FB x.P f](hv:jv ρ args=some vs)(hs:L8 A F U)
  (H:∀h',Ext x.h h'->je (U []) h'->bG x.P x.main f (u::vs).toArray h' A R') (K:∀v A',R' v A'->R v (U A')):Ef x ρ o F R:=fun e he=>
 ⟨A,U [],hs.perm.1,fun h' e1 e2=>by
  have e3:((#[Value.iface t u]++vs.toArray)[0]? :Option Value)=some (.iface t u):=by simp
  have e4:(#[Value.iface t u]++vs.toArray).extract 1 (#[Value.iface t u]++vs.toArray).size=vs.toArray:=by
   apply Array.ext';simp
  simp only[execOp,ho,resolve,he y _ hy,bind_eq,au,bind_pure,List.map_toArray,oK he hv,invoke,e3,e4,callMethod,o7];refine cu (mv.out h' A u _ ?_);have e5: #[u]++vs.toArray=(u::vs).toArray:=by simp
  simp only[e5];exact GU (bG.mono (H h' e1 e2) fun v A' r=>⟨U A',hs.perm.2 A',K v A' r⟩)⟩
end calls
def yX(P:Program)(h:Hp)(F:ah):List ResultVar->Env->List Value->Prop
 | [],_,vs=>vs=[]
 | .tmp t::r,ρ,vs=>∃v vs',vs=v::vs'/\look ρ t=some v/\yX P h F r ρ vs'
 | .cell a t::r,ρ,vs=>∃v vs' b off c E fz,vs=v::vs'/\look ρ a=some (.pointer (some ⟨b,off,none⟩))/\LP h F b (.cells c E fz)/\
   ((SC P t/\c[off]? =some v)\/(∃n,AG P t n/\off+n<=c.size/\v= .agg (c.extract off (off+n))))/\yX P h F r ρ vs'

def pack:List Value->Value
 | [v]=>v
 | vs=>.tuple vs.toArray

theorem Bo[SC P t]{off:Nat}(hl:LP h F b (.cells c E fz))(hc:c[off]? =some u)(H:Q u F):tr P h (loadVar t ⟨b,off,none⟩) F Q:=by
 simp only[loadVar,bind_eq,au,LX,eU,if_false];exact Yd hl hc H
theorem JL{t n:Nat}[AG P t n]{off:Nat}(hl:LP h F b (.cells c E fz))(hn:off+n<=c.size)(H:Q (.agg (c.extract off (off+n))) F):tr P h (loadVar t ⟨b,off,none⟩) F Q:=by
 simp only[loadVar,bind_eq,au,Ot,if_true,wP,loadCells];refine cu (jL hl n 0 #[] aj ?_);simpa[tr]using H

def rd(tmps:Array Value):ResultVar->Sem Value
 | .tmp t=>.pure (tmps.getD t undef)
 | .cell a t=>(asAddr (tmps.getD a undef)).bind fun p=>loadVar t p
def aew(vs:Array Value):Value:=if h:vs.size=1 then vs[0]else .tuple vs

theorem RZ(fn:Func)(tmps:Array Value):results fn tmps=(fn.results.mapM (m:=Sem) (rd tmps)).bind fun vs=>.pure (aew vs):=by
 unfold results
 have:(fun x=>match x with | ResultVar.tmp t=>pure (tmps.getD t undef) | ResultVar.cell a t=>do let p<-asAddr (tmps.getD a undef);loadVar t p)=rd tmps:=by
  funext r;cases r <;>rfl
 rw[<-this]
 rfl

theorem Yh{P:Program}{h:Hp}{F:ah}{ρ:Env}{tmps:Array Value}(he:jf ρ tmps):∀{rs:List ResultVar} {vs:List Value} {Q:List Value->ah->Prop},yX P h F rs ρ vs->Q vs F->tr P h (rs.mapM (m:=Sem) (rd tmps)) F Q
 | [],vs,Q,h1,h2=>by simp only[yX]at h1;subst h1;exact h2
 | .tmp t::rs,vs,Q,h1,h2=>by
  obtain⟨v,vs',rfl,h3,h4⟩:=h1;have e1:tmps.getD t undef=v:=by simp[he t v h3]
  simp only[List.mapM_cons,bind_eq,rd,e1,bind_pure];exact cu (Yh he h4 (by simpa[tr,au]using h2))
 | .cell a t::rs,vs,Q,h1,h2=>by
  obtain⟨v,vs',b,off,c,E,fz,rfl,h3,h5,h6,h4⟩:=h1;have e1:tmps.getD a undef= .pointer (some ⟨b,off,none⟩):=by simp[he a _ h3]
  simp only[List.mapM_cons,bind_eq,rd,e1,asAddr,au,bind_pure];refine cu ?_;rcases h6 with⟨i1,i2⟩ | ⟨n,i1,i2,rfl⟩
  ·exact Bo h5 i2 (cu (Yh he h4 (by simpa[tr]using h2)))
  exact JL h5 i2 (cu (Yh he h4 (by simpa[tr]using h2)))

theorem ZU(vs:List Value):aew vs.toArray=pack vs:=by
 match vs with
 | []=>rfl
 | [v]=>rfl
 | u::v::r=>
  have:¬((u::v::r).toArray.size=1):=by simp
  simp only[aew,this,dif_neg,not_false_eq_true]
  rfl

theorem acT{fn:Func}{vs:List Value}(hr:fn.results=rs.toArray)(H:yX P h F rs ρ vs)(hR:R (pack vs) F):∀tmps,jf ρ tmps->tr P h (results fn tmps) F R:=by
 intro tmps he;rw[RZ,hr,List.mapM_toArray];simp only[map_eq_pure_bind,bind_eq,au,bind_assoc,bind_pure];refine cu (Yh he H ?_);rw[ZU];exact hR

theorem ZV{main:aN}{fn:Func}{e:Exit}(he:e= .ret\/e= .normal)(hr:fn.results=rs.toArray){vs:List Value}(H:yX P h F rs ρ vs)(hR:R (pack vs) F):leave P main fn h R e ρ [] F:=
 ⟨he,acT hr H hR⟩

def dS:List Oper->Nat->Option Oper
 | [],_=>none
 | o::_,0=>some o
 | _::l,i+1=>dS l i
theorem IL:∀(l:List Oper) (i:Nat),dS l i=l[i]?
 | [],i=>by simp[dS]
 | o::l,0=>rfl
 | o::l,i+1=>by simp[dS,IL l i]
theorem aK{ops:Array Oper}(h:dS ops.toList i=some o):ops[i]? =some o:=by
 rw[IL]at h;simpa using h

class MO(P:Program):Prop where
 out:P.follows .mixedOrders=true

section rules
variable{x:Cx}{Q:fO}{ρ:Env}{ds:List Deferred}{F:ah}{ops:Array Oper}{L:ah}{i:Nat}{rest:List Nat}{o:Oper}{v:Value}{R:Value->ah->Prop}{d:Tmp}{op:Op}{ty:TypeId}{pos:String}{bW:Array Edge}{g:Option (Nat×Bool)}{K:Env->List Deferred->ah->Prop}
theorem fH(H:K ρ ds F):thn K Q .normal ρ ds F:=H
theorem sG(H:Q (.exit id) ρ ds F):thn K Q (.exit id) ρ ds F:=H
theorem aex(H:Q .ret ρ ds F):thn K Q .ret ρ ds F:=H
theorem anA{l:Nat}(H:Q (.goto l) ρ ds F):thn K Q (.goto l) ρ ds F:=H
theorem iE(H:Q .normal ρ ds F):blk id Q .normal ρ ds F:=H
theorem aey(H:Q .ret ρ ds F):blk id Q .ret ρ ds F:=H
theorem anB{l:Nat}(H:Q (.goto l) ρ ds F):blk id Q (.goto l) ρ ds F:=H
theorem CB(H:Q .normal ρ ds F)(h:Nat.beq Oe id=true:=by rfl):blk id Q (.exit Oe) ρ ds F:=by simp only[blk,h,cond_true];exact H
theorem AP(H:Q (.exit Oe) ρ ds F)(h:Nat.beq Oe id=false:=by rfl):blk id Q (.exit Oe) ρ ds F:=by simp only[blk,h,cond_false];exact H

theorem W.kG{c:Operand}{y z:Code}(H:W x y Q ρ ds F)(h:ev ρ c=some (.bool true):=by rfl):W x (.cond c y z) Q ρ ds F:=W.cond h (fun _=>H) (fun e=>by cases e)
theorem W.iq{c:Operand}{y z:Code}(H:W x z Q ρ ds F)(h:ev ρ c=some (.bool false):=by rfl):W x (.cond c y z) Q ρ ds F:=W.cond h (fun e=>by cases e) (fun _=>H)

theorem yQ{o:Oper}(h:o.guard=none):gY ops ρ o:=by simp[gY,h]
theorem aI{o:Oper}{d:Nat}{w:Bool}(h:o.guard=some (j,w))(hj:(ops[j]?).bind (·.dst)=some d)(hd:look ρ d=some (.bool w)):gY ops ρ o:=by simp only[gY,h];exact⟨d,hj,hd⟩
theorem bD{o:Oper}{d:Nat}{w v u:Bool}(h:o.guard=some (j,w))(hj:(ops[j]?).bind (·.dst)=some d)(hd:look ρ d=some (.bool v))(hu:(v==w)=u):iM ops (look ρ) o u:=by simp only[iM,h];exact⟨d,.bool v,hj,hd,.inl ⟨v,O,hu⟩⟩
theorem aA.st(H:aA x ops rest Q ((d,v)::ρ) ds F)(ho:dS ops.toList i=some ⟨some d,op,ty,pos,bW,g⟩:=by rfl)(hw:gY ops ρ ⟨some d,op,ty,pos,bW,g⟩:=by first | exact yQ rfl | exact aI rfl rfl rfl)(hd:Nat.blt d x.n=true:=by rfl)(hn:fB op=true:=by rfl)
  (
   hy:Yv x (· =F) ρ ⟨some d,op,ty,pos,bW,g⟩ v:=by
   first
   | exact xO rfl rfl
   | exact GI rfl rfl
   | exact o8 rfl rfl
   | exact acS rfl rfl (by first | exact .inl (by assumption) | exact .inr (fun _ e=>by subst e;first | exact .head _ | exact .tail _ (.head _) | exact .tail _ (.tail _ (.head _)) | (repeat(first | exact List.Mem.head _ | apply List.Mem.tail)))) (by first | assumption | rfl)
   | exact II rfl rfl (by first | exact .inl (by assumption) | exact .inr (fun _ e=>by subst e;first | exact .head _ | exact .tail _ (.head _) | exact .tail _ (.tail _ (.head _)) | (repeat(first | exact List.Mem.head _ | apply List.Mem.tail)))) (by first | assumption | decide | omega) (by first | assumption | rfl)
   | exact LZ rfl rfl rfl (by first | assumption | omega)
   | exact JJ rfl rfl rfl (by first | assumption | omega)
   | exact GK rfl rfl rfl (by first | assumption | omega) (by first | assumption | omega)
   | exact D9 rfl rfl rfl (by first | assumption | omega) (by first | assumption | omega)
   | exact aer rfl rfl
   | exact WG rfl rfl rfl | exact aen rfl rfl rfl | exact WH rfl rfl rfl | exact aeo rfl rfl rfl | exact yt rfl rfl rfl | exact Fe rfl rfl rfl
   | exact anv rfl rfl rfl aj aj | exact anw rfl rfl rfl aj aj | exact RU rfl rfl rfl | exact Ou rfl rfl rfl | exact yU rfl rfl rfl
   | exact IJ rfl rfl rfl | exact PI rfl rfl | exact QO rfl rfl rfl | exact QS rfl rfl rfl | exact rJ rfl rfl | exact oZ rfl rfl
   | exact Yf rfl rfl rfl | exact Ye rfl (by intro _ h;cases h) rfl | exact dw rfl rfl rfl | exact ale rfl rfl rfl | exact ahZ rfl rfl rfl
   | exact QT rfl rfl rfl aj aj (by first | assumption | rfl) | exact L6 rfl rfl rfl aj aj (by first | assumption | rfl)
   | exact ZP rfl rfl rfl | exact aes rfl rfl rfl | exact ar6 rfl rfl | exact GL rfl rfl | exact ar5 rfl rfl aj aj
   | exact ah0 rfl rfl rfl | exact aep rfl rfl rfl | exact WI rfl rfl rfl | exact yV rfl rfl rfl | exact JK rfl rfl rfl aj | exact AB rfl rfl rfl aj | exact anx rfl rfl rfl aj | exact ar4 rfl rfl rfl aj):aA x ops (i::rest) Q ρ ds F:=
 aA.quiet (o:=⟨some d,op,ty,pos,bW,g⟩) H (aK ho) hw hd hn hy

theorem aA.no{w v:Bool}(H:aA x ops rest Q ((d,undef)::ρ) ds F)(ho:dS ops.toList i=some ⟨some d,op,ty,pos,bW,some (j,w)⟩:=by rfl)(hj:(dS ops.toList j).bind (·.dst)=some d':=by rfl)(hv:look ρ d'=some (.bool v):=by rfl)(iK:(v==w)=false:=by rfl)(hd:Nat.blt d x.n=true:=by rfl):aA x ops (i::rest) Q ρ ds F:=
 aA.unwanted (aK ho) O (by rw[IL]at hj;simpa using hj) hv iK hd H

theorem aA.ask{w:Bool}{p:Prop}[Decidable p](ht:p->aA x ops (i::rest) Q ((d',.bool true)::ρ) ds F)(hf:¬p->aA x ops (i::rest) Q ((d',.bool false)::ρ) ds F)(ho:dS ops.toList i=some ⟨D,op,ty,pos,bW,some (j,w)⟩:=by rfl)(hj:(dS ops.toList j).bind (·.dst)=some d':=by rfl)(hv:look ρ d'=some (.bool (decide p)):=by rfl):aA x ops (i::rest) Q ρ ds F:=by
 have key:∀u:Bool,decide p=u->aA x ops (i::rest) Q ((d',.bool u)::ρ) ds F->aA x ops (i::rest) Q ρ ds F:=by
  intro u hu H b k cs Stop tmps hk M h1 h0 h2 h3 h4 h5 hc;refine H b k cs Stop tmps hk M h1 h0 h2 (fun t y hy=>?_) h4 h5 hc;unfold look at hy
  cases e:Nat.beq t d' with
  | true=>
   rw[e]at hy;simp only[cond_true,dY]at hy;subst hy;rw[Nat.eq_of_beq_eq_true e];rw[<-hu];exact h3 d' _ hv
  | false=>rw[e]at hy;exact h3 t y hy
 by_cases hp:p
 ·exact key true (by simp[hp]) (ht hp)
 exact key false (by simp[hp]) (hf hp)

theorem aA.new{t:Nat}{z:Value}(H:∀β,aA x ops rest Q ((d,.pointer (some ⟨β,0,none⟩))::ρ) ds ((β,.cells zc t (0,0))::F))(ho:dS ops.toList i=some ⟨some d,.alloc t,ty,pos,bW,g⟩:=by rfl)[TI x.P t s b z zc](hw:gY ops ρ ⟨some d,.alloc t,ty,pos,bW,g⟩:=by first | exact yQ rfl | exact aI rfl rfl rfl)(hd:Nat.blt d x.n=true:=by rfl):aA x ops (i::rest) Q ρ ds F:=
 aA.Ql (o:=⟨some d,.alloc t,ty,pos,bW,g⟩) (Yg O fun β _ _=>H β) (aK ho) hw hd O
theorem aA.box(H:∀β,aA x ops rest Q ((d,.pointer (some ⟨β,0,none⟩))::ρ) ds ((β,.cells cs t (0,0))::F))(ho:dS ops.toList i=some ⟨some d,.box t y,ty,pos,bW,g⟩:=by rfl)(hy:ev ρ y=some u:=by rfl)(hc:u.cells=cs:=by rfl)(hw:gY ops ρ ⟨some d,.box t y,ty,pos,bW,g⟩:=by first | exact yQ rfl | exact aI rfl rfl rfl)(hd:Nat.blt d x.n=true:=by rfl):aA x ops (i::rest) Q ρ ds F:=
 aA.Ql (o:=⟨some d,.box t y,ty,pos,bW,g⟩) (anz O hy hc fun β _ _=>H β) (aK ho) hw hd O
theorem aA.sto{t:Nat}{z:Value}{off:Nat}(H:aA x ops rest Q ρ ds (U (.cells (c.setIfInBounds off u) E (0,0))))(ho:dS ops.toList i=some ⟨none,.store t a y,ty,pos,bW,g⟩:=by rfl)[TI x.P t 1 b' z zc]
  (ha:ev ρ a=some (.pointer (some ⟨b,off,none⟩)):=by rfl) (hy:ev ρ y=some u:=by rfl) (h1:one u=true:=by rfl) (hl:At b (.cells c E (0,0)) F U:=by repeat(first | exact At.head | apply At.tail | apply At.app)) (hc:off<c.size:=by first | assumption | decide | omega | (simp;done)) (hw:gY ops ρ ⟨none,.store t a y,ty,pos,bW,g⟩:=by first | exact yQ rfl | exact aI rfl rfl rfl):aA x ops (i::rest) Q ρ ds F:=
 aA.Ql (o:=⟨none,.store t a y,ty,pos,bW,g⟩) (aeu (s:=1) O ha hy h1 hl hc H) (aK ho) hw O O
theorem aA.Yi{t n:Nat}(H:aA x ops rest Q ρ ds (U (.cells vs E (0,0))))(ho:dS ops.toList i=some ⟨none,.store t a y,ty,pos,bW,g⟩:=by rfl)[AG x.P t n]
  (ha:ev ρ a=some (.pointer (some ⟨b,0,none⟩)):=by rfl) (hy:ev ρ y=some (.agg vs):=by rfl) (hn:vs.size=n:=by first | assumption | rfl) (h1:lC vs.toList=true:=by first | assumption | rfl) (hl:At b (.cells c E (0,0)) F U:=by repeat(first | exact At.head | apply At.tail | apply At.app)) (hc:c.size=n:=by first | assumption | rfl) (hw:gY ops ρ ⟨none,.store t a y,ty,pos,bW,g⟩:=by first | exact yQ rfl | exact aI rfl rfl rfl):aA x ops (i::rest) Q ρ ds F:=
 aA.Ql (o:=⟨none,.store t a y,ty,pos,bW,g⟩) (ZR O ha hy hn h1 hl hc H) (aK ho) hw O O
theorem aA.alf{t n:Nat}{off:Nat}(H:aA x ops rest Q ρ ds (U (.cells (gQ c off vs.toList) E (0,0))))(ho:dS ops.toList i=some ⟨none,.store t a y,ty,pos,bW,g⟩:=by rfl)[AG x.P t n]
  (ha:ev ρ a=some (.pointer (some ⟨b,off,none⟩)):=by rfl) (hy:ev ρ y=some (.agg vs):=by rfl) (hn:vs.size=n:=by first | assumption | rfl) (h1:lC vs.toList=true:=by first | assumption | rfl) (hl:At b (.cells c E (0,0)) F U:=by repeat(first | exact At.head | apply At.tail | apply At.app)) (hc:off+n<=c.size:=by first | assumption | decide | omega) (hw:gY ops ρ ⟨none,.store t a y,ty,pos,bW,g⟩:=by first | exact yQ rfl | exact aI rfl rfl rfl):aA x ops (i::rest) Q ρ ds F:=
 aA.Ql (o:=⟨none,.store t a y,ty,pos,bW,g⟩) (RY O ha hy hn h1 hl hc H) (aK ho) hw O O

theorem go{A:Prop}(b:B)(h:B->A:=by
  first
  | exact aA.st
  | exact aA.nil
  | exact fH | exact iE
  | exact W.seq
  | exact W.region rfl
  | exact aA.sto | exact aA.Yi | exact aA.alf
  | exact aA.no
  | exact W.block
  | exact W.kG | exact W.iq
  | exact W.skip | exact W.exit | exact W.ret | exact sG | exact aex | exact aey | exact CB | exact AP | exact anA | exact anB | exact W.goto | exact W.label):A:=h b
end rules
section rules
variable{x:Cx}{Q:fO}{ρ:Env}{ds:List Deferred}{F:ah}{ops:Array Oper}{S:ah->Prop}{L:ah}{i:Nat}{rest:List Nat}{o:Oper}{v:Value}{R:Value->ah->Prop}{d:Tmp}{op:Op}{ty:TypeId}{pos:String}{bW:Array Edge}{g:Option (Nat×Bool)}{K:Env->List Deferred->ah->Prop}
theorem wn:gY ops ρ ⟨D,op,ty,pos,bW,none⟩:=trivial
theorem an:iM ops (look ρ) ⟨D,op,ty,pos,bW,none⟩ true:=rfl

theorem aC.refl:aC F F:=fun _ h=>h
theorem aC.nil:aC [] F:=fun _ h=>absurd h List.not_mem_nil
theorem aC.one{y:Nat×Obj}(hy:y∈F)(h:aC L F):aC (y::L) F:=fun p hp=>by
 rcases bU.1 hp with rfl | hp
 ·exact hy
 exact h p hp
theorem aC.cons{y:Nat×Obj}(h:aC L F):aC L (y::F):=fun p hp=>dH _ (h p hp)
theorem aC.app(h:aC L F):aC L (A++F):=fun p hp=>bZ _ (h p hp)

theorem oq(hy:Yv x (· =F) ρ ⟨some d,op,ty,pos,bW,g⟩ v)(ho:dS ops.toList i=some ⟨some d,op,ty,pos,bW,g⟩)(hw:gY ops ρ ⟨some d,op,ty,pos,bW,g⟩)(hd:Nat.blt d x.n=true)(hn:fB op=true)(H:aA x ops rest Q ((d,v)::ρ) ds F):aA x ops (i::rest) Q ρ ds F:=
 aA.quiet (o:=⟨some d,op,ty,pos,bW,g⟩) H (aK ho) hw hd hn hy
theorem aq(hy:Yv x (aC L) ρ ⟨some d,op,ty,pos,bW,g⟩ v)(ho:dS ops.toList i=some ⟨some d,op,ty,pos,bW,g⟩)(hw:iM ops (look ρ) ⟨some d,op,ty,pos,bW,g⟩ true)(hd:Nat.blt d x.n=true)(hn:fB op=true)(H:Any x ops L fuel (listed||| 2 ^ i) Q ((d,v)::ρ) ds F)(hr:(Oo ops listed i&&Fb ops listed i&&LW ops)=true:=by kernel_rfl)(hS:aC L F:=by first | exact fun _ h=>h | exact fun _ h=>absurd h List.not_mem_nil | ((repeat(first | exact fun _ h=>h | apply aC.cons | apply aC.app)) <;>fail) | (repeat(first | exact aC.nil | refine aC.one zS ?_))):Any x ops L (fuel+1) listed Q ρ ds F:=by
 simp only[Bool.and_eq_true]at hr;exact Any.quiet (o:=⟨some d,op,ty,pos,bW,g⟩) H hr.1.1 hr.1.2 (aK ho) hr.2 hw hd hn hS hy
theorem ap{w u:Bool}(ho:dS ops.toList i=some ⟨some d,op,ty,pos,bW,some (j,w)⟩)(hj:(dS ops.toList j).bind (·.dst)=some d')(hv:look ρ d'=some (.bool u))(iK:(u==w)=false)(hd:Nat.blt d x.n=true)(hn:fB op=true)(H:Any x ops L fuel (listed||| 2 ^ i) Q ((d,undef)::ρ) ds F)(hr:(Oo ops listed i&&Fb ops listed i&&LW ops)=true:=by kernel_rfl)(hS:aC L F:=by first | exact fun _ h=>h | exact fun _ h=>absurd h List.not_mem_nil | ((repeat(first | exact fun _ h=>h | apply aC.cons | apply aC.app)) <;>fail) | (repeat(first | exact aC.nil | refine aC.one zS ?_))):Any x ops L (fuel+1) listed Q ρ ds F:=by
 simp only[Bool.and_eq_true]at hr;exact Any.pass (o:=⟨some d,op,ty,pos,bW,some (j,w)⟩) H hr.1.1 hr.1.2 (aK ho) hr.2 (bD O (by rw[IL]at hj;simpa using hj) hv iK) hd hn hS
theorem oe(ho:dS ops.toList i=some ⟨D,op,ty,pos,bW,g⟩)(hw:gY ops ρ ⟨D,op,ty,pos,bW,g⟩)(hd:iy D x.n=true)(hn:fB op=true)(H:Ef x ρ ⟨D,op,ty,pos,bW,g⟩ F fun v F'=>aA x ops rest Q (put ρ D v) ds F'):aA x ops (i::rest) Q ρ ds F:=
 aA.Ql (o:=⟨D,op,ty,pos,bW,g⟩) H (aK ho) hw hd hn
theorem ae(ho:dS ops.toList i=some ⟨D,op,ty,pos,bW,g⟩)(hw:iM ops (look ρ) ⟨D,op,ty,pos,bW,g⟩ true)(hd:iy D x.n=true)(hn:fB op=true)(H:Ef x ρ ⟨D,op,ty,pos,bW,g⟩ F fun v F'=>(lastT ops i=true\/aC L F')/\Any x ops L fuel (listed||| 2 ^ i) Q (put ρ D v) ds F')(hr:rH ops listed=[i]:=by kernel_rfl):
  Any x ops L (fuel+1) listed Q ρ ds F:=Any.Ql (o:=⟨D,op,ty,pos,bW,g⟩) H hr (aK ho) hw hd hn
theorem az(H:Q .normal ρ ds F)(hr:rH ops listed=[]:=by kernel_rfl):Any x ops L fuel listed Q ρ ds F:=Any.done hr H
theorem W.jS{n:Nat}(hn:ops.size=n)(H:Any x ops F n 0 Q ρ ds F)[MO x.P]:W x (.region id ops true) Q ρ ds F:=W.draw MO.out F (hn▸H)
theorem W.kQ{n:Nat}(L:ah)(hn:ops.size=n)(H:Any x ops L n 0 Q ρ ds F)[MO x.P]:W x (.region id ops true) Q ρ ds F:=W.draw MO.out L (hn▸H)

theorem gs{A:Prop}(b:B)(h:B->A:=by
  first
  | exact fH | exact iE
  | exact W.seq
  | exact aA.nil | exact az
  | exact W.block
  | exact W.skip | exact W.exit | exact W.ret | exact sG | exact aex | exact aey | exact CB | exact AP | exact anA | exact anB | exact W.goto | exact W.label):A:=h b

theorem lk{t:Nat}(h:look ρ t=some v)(e:v=u):look ρ t=some u:=e▸h

theorem CG{off:Nat}(ho:o.op= .load t a)[SC x.P t](ha:ev ρ a=some (.pointer (some ⟨b,off,none⟩)))
  (hl:PG x.h S b (.cells c E fz):=by first | exact .inl (by assumption) | exact .inr (fun _ e=>by subst e;first | exact .head _ | exact .tail _ (.head _) | exact .tail _ (.tail _ (.head _)) | (repeat(first | exact List.Mem.head _ | apply List.Mem.tail))) | exact .inr (fun _ e=>e _ (by first | exact .head _ | exact .tail _ (.head _) | exact .tail _ (.tail _ (.head _)) | (repeat(first | exact List.Mem.head _ | apply List.Mem.tail)))))
  (hc:c[off]? =some v:=by first | assumption | rfl):Yv x S ρ o v:=acS ho ha hl hc
theorem Qm{t n:Nat}{off:Nat}(ho:o.op= .load t a)[AG x.P t n](ha:ev ρ a=some (.pointer (some ⟨b,off,none⟩)))
  (hl:PG x.h S b (.cells c E fz):=by first | exact .inl (by assumption) | exact .inr (fun _ e=>by subst e;first | exact .head _ | exact .tail _ (.head _) | exact .tail _ (.tail _ (.head _)) | (repeat(first | exact List.Mem.head _ | apply List.Mem.tail))) | exact .inr (fun _ e=>e _ (by first | exact .head _ | exact .tail _ (.head _) | exact .tail _ (.tail _ (.head _)) | (repeat(first | exact List.Mem.head _ | apply List.Mem.tail)))))
  (hn:off+n<=c.size:=by first | assumption | exact Nat.le_of_ble_eq_true rfl | decide | omega) (hv:c.extract off (off+n)=vs:=by first | assumption | rfl):Yv x S ρ o (.agg vs):=II ho ha hl hn hv
theorem ZW{t n:Nat}(ho:o.op= .load t a)[AG x.P t n](ha:ev ρ a=some (.pointer (some ⟨b,0,none⟩)))
  (hl:PG x.h S b (.cells c E fz):=by first | exact .inl (by assumption) | exact .inr (fun _ e=>by subst e;first | exact .head _ | exact .tail _ (.head _) | exact .tail _ (.tail _ (.head _)) | (repeat(first | exact List.Mem.head _ | apply List.Mem.tail))) | exact .inr (fun _ e=>e _ (by first | exact .head _ | exact .tail _ (.head _) | exact .tail _ (.tail _ (.head _)) | (repeat(first | exact List.Mem.head _ | apply List.Mem.tail)))))
  (hn:c.size=n:=by first | assumption | rfl):Yv x S ρ o (.agg c):=II ho ha hl aj (by apply Array.ext';simp[<-hn])
theorem yix{t E:Nat}{z:Value}{off len:Nat}{n:Nat}(ho:o.op= .indexAddr t a ix)[TD x.P t (.slice E)][TI x.P E s wO z zc](ha:ev ρ a=some (.slice (some ⟨b,off,none⟩) len cap))(hi:ev ρ ix=some (.int k (n:Int)))(h1:n<len:=by first | assumption | omega):
  Yv x S ρ o (.pointer (some ⟨b,off+n*s,none⟩)):=LZ ho ha hi h1
theorem rM{t E:Nat}{z:Value}{off:Nat}{n:Nat}(ho:o.op= .indexAddr t a ix)[TD x.P t (.array m E)][TI x.P E s wO z zc](ha:ev ρ a=some (.pointer (some ⟨b,off,none⟩)))(hi:ev ρ ix=some (.int k (n:Int)))(h1:n<m:=by first | assumption | omega):
  Yv x S ρ o (.pointer (some ⟨b,off+n*s,none⟩)):=JJ ho ha hi h1
theorem ZX{t E:Nat}{z:Value}{off len:Nat}{n:Int}(ho:o.op= .indexAddr t a ix)[TD x.P t (.slice E)][TI x.P E s wO z zc](ha:ev ρ a=some (.slice (some ⟨b,off,none⟩) len cap))(hi:ev ρ ix=some (.int k n))(h0:0<=n:=by first | assumption | omega)(h1:n<len:=by first | assumption | omega):
  Yv x S ρ o (.pointer (some ⟨b,off+n.toNat*s,none⟩)):=GK ho ha hi h0 h1
theorem kU{t E:Nat}{z:Value}{off:Nat}{n:Int}(ho:o.op= .indexAddr t a ix)[TD x.P t (.array m E)][TI x.P E s wO z zc](ha:ev ρ a=some (.pointer (some ⟨b,off,none⟩)))(hi:ev ρ ix=some (.int k n))(h0:0<=n:=by first | assumption | omega)(h1:n<m:=by first | assumption | omega):
  Yv x S ρ o (.pointer (some ⟨b,off+n.toNat*s,none⟩)):=D9 ho ha hi h0 h1
theorem acU{a b:Int}(ho:o.op= .binOp .add t y z t')(hy:ev ρ y=some (.int .i64 a))(hz:ev ρ z=some (.int .i64 b))(h0: -9223372036854775808<=a+b:=by omega)(h1:a+b<=9223372036854775807:=by omega):Yv x S ρ o (.int .i64 (a+b)):=anv ho hy hz h0 h1
theorem Vr{a b:Int}(ho:o.op= .binOp .sub t y z t')(hy:ev ρ y=some (.int .i64 a))(hz:ev ρ z=some (.int .i64 b))(h0: -9223372036854775808<=a-b:=by omega)(h1:a-b<=9223372036854775807:=by omega):Yv x S ρ o (.int .i64 (a-b)):=anw ho hy hz h0 h1
theorem yfc{d:TypeDesc}(ho:o.op= .makeInterface t y)[TD x.P t d](hy:ev ρ y=some u)(hd:∀ms,d≠ .interface ms:=by intro _ h;cases h):Yv x S ρ o (.iface t u):=Ye ho hd hy

theorem eS{t:Nat}{z:Value}{off:Nat}(ho:o.op= .store t a y)[TI x.P t 1 b' z zc](ha:ev ρ a=some (.pointer (some ⟨b,off,none⟩)))(hy:ev ρ y=some u)
  (H:R undef (U (.cells (c.setIfInBounds off u) E (0,0)))) (h1:one u=true:=by first | rfl | assumption) (hl:At b (.cells c E (0,0)) F U:=by repeat(first | exact At.head | apply At.tail | apply At.app)) (hc:off<c.size:=by first | assumption | decide | omega | (simp;done)):Ef x ρ o F R:=aeu (s:=1) ho ha hy h1 hl hc H
theorem eSA{t n:Nat}{off:Nat}(ho:o.op= .store t a y)[AG x.P t n](ha:ev ρ a=some (.pointer (some ⟨b,off,none⟩)))(hy:ev ρ y=some (.agg vs))
  (H:R undef (U (.cells (gQ c off vs.toList) E (0,0)))) (hn:vs.size=n:=by first | assumption | rfl) (h1:lC vs.toList=true:=by first | assumption | rfl) (hl:At b (.cells c E (0,0)) F U:=by repeat(first | exact At.head | apply At.tail | apply At.app)) (hc:off+n<=c.size:=by first | assumption | exact Nat.le_of_ble_eq_true rfl | decide | omega):Ef x ρ o F R:=RY ho ha hy hn h1 hl hc H
theorem eSW{t n:Nat}(ho:o.op= .store t a y)[AG x.P t n](ha:ev ρ a=some (.pointer (some ⟨b,0,none⟩)))(hy:ev ρ y=some (.agg vs))
  (H:R undef (U (.cells vs E (0,0)))) (hn:vs.size=n:=by first | assumption | rfl) (h1:lC vs.toList=true:=by first | assumption | rfl) (hl:At b (.cells c E (0,0)) F U:=by repeat(first | exact At.head | apply At.tail | apply At.app)) (hc:c.size=n:=by first | assumption | rfl):Ef x ρ o F R:=ZR ho ha hy hn h1 hl hc H
theorem eN{t:Nat}{z:Value}(ho:o.op= .alloc t)[TI x.P t s b z zc](H:∀β,R (.pointer (some ⟨β,0,none⟩)) ((β,.cells zc t (0,0))::F)):Ef x ρ o F R:=Yg ho fun β _ _=>H β
theorem eBA(ho:o.op= .box t y)(hy:ev ρ y=some (.agg cs))(H:∀β,R (.pointer (some ⟨β,0,none⟩)) ((β,.cells cs t (0,0))::F)):Ef x ρ o F R:=aoP ho hy fun β _ _=>H β
end rules
end Go.jc
