/- What is reached in so many steps, as the laws find it. Conditions: none; no program in sight. (And 9 texts more.) -/
import Derived.Test.YtkkdgffaohidnaaGreatDoorR10
import Derived.Test.YtkkdgffaohidnaaGreatDoorR13
set_option linter.unusedVariables false
set_option linter.unusedSimpArgs false
set_option linter.unusedSectionVars false

/- What is reached in so many steps, as the laws find it. Conditions: none; no program in sight. -/
namespace Go.aS
set_option linter.unusedVariables false
def Le(ps:List Pn)(q o:Nat):Bool:=ps.any fun p=>p.takes q&&decide ((p.out q).toNat=o)
def Lh(ps:List Pn)(f:Nat→Bool)(k o:Nat):Bool:=(List.range k).any fun q=>f q&&Le ps q o
def acj(ps:List Pn)(f:Nat→Bool):Nat→Bool:=Lh ps f 13
def EY(ps:List Pn)(f:Nat→Bool)(q i o:Nat):Bool:=Lh ps f q o|| (f q&&Le (ps.take i) q o)
theorem V3{ps:List Pn}{f:Nat→Bool}{q:Nat}:EY ps f q 0=Lh ps f q:=by funext o;simp[EY,Le]
theorem V4{ps:List Pn}{f:Nat→Bool}{q o:Nat}:Lh ps f (q+1) o=(Lh ps f q o|| (f q&&Le ps q o)):=by
 simp[Lh,List.range_succ]
theorem QG{ps:List Pn}{f:Nat→Bool}{q i:Nat}(h:i=ps.length∨f q=false):EY ps f q i=Lh ps f (q+1):=by
 funext o
 rw[V4,EY]
 rcases h with rfl | h
 ·rw[List.take_length]
 ·rw[h];simp
theorem MH{ps:List Pn}{q i o:Nat}{p:Pn}(h:ps[i]? =some p):Le (ps.take (i+1)) q o=(Le (ps.take i) q o|| (p.takes q&&decide ((p.out q).toNat=o))):=by
 rw[Le,List.take_add_one,h,List.any_append];simp[Le]
theorem YT{ps:List Pn}{f:Nat→Bool}{q i:Nat}{p:Pn}(h:ps[i]? =some p)(hf:f q=true)(ht:p.takes q=true):EY ps f q (i+1)=fun o=>if o=(p.out q).toNat then true else EY ps f q i o:=by
 funext o
 rw[EY,EY,MH h,hf,ht]
 by_cases e:o=(p.out q).toNat
 ·simp[e]
 ·rw[if_neg e,decide_eq_false (fun h=>e h.symm)];simp
theorem MI{ps:List Pn}{f:Nat→Bool}{q i:Nat}{p:Pn}(h:ps[i]? =some p)(ht:p.takes q=false):EY ps f q (i+1)=EY ps f q i:=by
 funext o
 rw[EY,EY,MH h,ht];simp
def OD(ps:List Pn)(q:Nat):Nat→Nat→Bool
 | 0=>fun o=>decide (o=q)
 | n+1=>acj ps (OD ps q n)
theorem QH{ps:List Pn}{q o:Nat}(h4:ps.length≤4):Le ps q o=true↔∃i,(i,o)∈dO ps 0 q:=by
 simp only[Le,List.any_eq_true,Bool.and_eq_true,decide_eq_true_eq,Um,Ak]
 constructor
 ·rintro⟨p,hp,h1,h2⟩
  obtain⟨i,hi⟩:=List.getElem?_of_mem hp
  have hil:i<ps.length:=by
   rcases Nat.lt_or_ge i ps.length with h' | h'
   ·exact h'
   ·rw[List.getElem?_eq_none h']at hi;cases hi
  refine⟨i,⟨by omega,by simp[P9,hi,h1],by simp⟩,?_⟩
  rw[gy,hi];exact h2.symm
 ·rintro⟨i,⟨h1,h2,_⟩,rfl⟩
  unfold P9 at h2
  split at h2
  ·rename_i p hp
   exact⟨p,List.mem_of_getElem? hp,h2,by rw[gy,hp]⟩
  ·cases h2
theorem EZ{ps:List Pn}{q:Nat}(h4:ps.length≤4)(hq:q<13):∀{n o:Nat},OD ps q n o=true↔∃v,v.length=n∧qJ (dO ps 0) q v o
 | 0,o=>by
  simp only[OD,decide_eq_true_eq]
  constructor
  ·rintro rfl;exact⟨[],rfl,rfl⟩
  ·rintro⟨v,hv,hg⟩
   obtain rfl:=List.length_eq_zero_iff.1 hv
   exact hg.symm
 | n+1,o=>by
  simp only[OD,acj,Lh,List.any_eq_true,List.mem_range,Bool.and_eq_true]
  constructor
  ·rintro⟨m,hm,h1,h2⟩
   obtain⟨v,hv,hg⟩:=(EZ h4 hq).1 h1
   obtain⟨i,hi⟩:=(QH h4).1 h2
   exact⟨v++[i],by simp[hv],lW.2 ⟨m,hg,hi⟩⟩
  ·rintro⟨v,hv,hg⟩
   rcases List.eq_nil_or_concat v with rfl | ⟨r,p,rfl⟩
   ·cases hv
   ·rw[List.concat_eq_append]at*
    obtain⟨m,h3,h5⟩:=lW.1 hg
    have hrl:r.length=n:=by simpa using hv
    have hm:m<13:=by
     rcases List.eq_nil_or_concat r with rfl | ⟨r',p',rfl⟩
     ·have:q=m:=h3
      omega
     ·rw[List.concat_eq_append]at h3
      obtain⟨m',_,h6⟩:=lW.1 h3
      exact F9 _ _ _ h6
    exact⟨m,hm,(EZ h4 hq).2 ⟨r,hrl,h3⟩,(QH h4).2 ⟨p,h5⟩⟩
theorem YU{ps:List Pn}{q o:Nat}{v:List Nat}(hq:q<13)(h:qJ (dO ps 0) q v o):o<13:=by
 rcases List.eq_nil_or_concat v with rfl | ⟨r,p,rfl⟩
 ·have:q=o:=h
  omega
 ·rw[List.concat_eq_append]at h
  obtain⟨m,_,h6⟩:=lW.1 h
  exact F9 _ _ _ h6
def acn(f:Nat→Bool):Bool:=(List.range 13).any f
theorem YV{ps:List Pn}{q n:Nat}(h4:ps.length≤4)(hq:q<13):acn (OD ps q n)=dD (dO ps 0) n q:=by
 rw[Bool.eq_iff_iff,JJ,acn,List.any_eq_true]
 constructor
 ·rintro⟨o,_,h⟩
  obtain⟨v,h1,h2⟩:=(EZ h4 hq).1 h
  exact⟨v,o,h1,h2⟩
 ·rintro⟨v,o,h1,h2⟩
  exact⟨o,List.mem_range.2 (YU hq h2),(EZ h4 hq).2 ⟨v,h1,h2⟩⟩
end Go.aS

/- Operations that come up in any order and only add to what is owned. Conditions: none; over any program. -/
namespace Go.aS
abbrev Spc:=Nat×Nat×(Value→ah→Prop)
def waits(ops:Array Oper):Nat→Nat→Nat→Bool
 | 0,_,_=>false
 | n+1,k,b=>match ops[k]? with | some o=>o.after.any fun e=>iG e&&(Nat.beq e.on b|| waits ops n e.on b) | none=>false
structure Y4(ops:Array Oper)(listed:Nat)(B:List Nat):Prop where
 cl:Closed ops listed
 low:∀k o,ops[k]? =some o→∀e∈o.after,iG e=true→e.on<k
 or:∀k,k<ops.size→listed.testBit k=false→k∈B∨∀b∈B,waits ops 6 k b=true
 un:∀b∈B,b<ops.size∧listed.testBit b=false
 nd:B.Nodup

theorem Y4.some{ops:Array Oper}{listed:Nat}{B:List Nat}(h:Y4 ops listed B){b:Nat}(hb:b∈B):qx ops listed≠[]:=by
 have key:∀(n k:Nat),k<n→k<ops.size→listed.testBit k=false→∃i,Fq ops listed i=true:=by
  intro n
  induction n with
  | zero=>intro k hk;omega
  | succ n ih=>
   intro k hk hlt hl
   by_cases hr:Fq ops listed k=true
   ·exact⟨k,hr⟩
   ·simp only[Fq,Array.getElem?_eq_getElem hlt,hl,Bool.not_false,Bool.true_and,Array.all_eq_true_iff_forall_mem,Bool.or_eq_true,Bool.not_eq_true']at hr
    have:∃e∈(ops[k]).after,iG e=true∧listed.testBit e.on=false:=by
     refine Classical.byContradiction fun hn=>hr fun e he=>?_
     cases hbe:iG e with
     | false=>exact .inl rfl
     | true=>
      cases ht:listed.testBit e.on with
      | true=>exact .inr rfl
      | false=>exact absurd ⟨e,he,hbe,ht⟩ hn
    obtain⟨e,he,h1,h2⟩:=this
    have:=h.low k _ (Array.getElem?_eq_getElem hlt) e he h1
    exact ih e.on (by omega) (by omega) h2
 obtain⟨i,hi⟩:=key (b+1) b (by omega) (h.un b hb).1 (h.un b hb).2
 intro e
 have:=o8.2 hi
 rw[e]at this
 cases this

theorem Y4.step{ops:Array Oper}{listed j:Nat}{B1 B2:List Nat}(h:Y4 ops listed (B1++j::B2))(hj:Fq ops listed j=true):Y4 ops (listed||| 2 ^ j) (B1++B2):=by
 have hnd:j∉B1++B2:=by
  have:=(List.perm_middle (a:=j) (l₁:=B1) (l₂:=B2)).nodup_iff.1 h.nd
  exact(List.nodup_cons.1 this).1
 refine⟨h.cl.step hj,h.low,fun k hk hl=>?_,fun b hb=>?_,?_⟩
 ·rw[testBit_or,Bool.or_eq_false_iff]at hl
  have hne:j≠k:=by simpa using hl.2
  rcases h.or k hk hl.1 with h' | h'
  ·left
   rcases List.mem_append.1 h' with h' | h'
   ·exact List.mem_append_left _ h'
   ·rcases List.mem_cons.1 h' with h' | h'
    ·exact absurd h'.symm hne
    ·exact List.mem_append_right _ h'
  ·right
   intro b hb
   refine h' b ?_
   rcases List.mem_append.1 hb with hb | hb
   ·exact List.mem_append_left _ hb
   ·exact List.mem_append_right _ (List.mem_cons_of_mem _ hb)
 ·have hb':b∈B1++j::B2:=by
   rcases List.mem_append.1 hb with hb | hb
   ·exact List.mem_append_left _ hb
   ·exact List.mem_append_right _ (List.mem_cons_of_mem _ hb)
  refine⟨(h.un b hb').1,?_⟩
  rw[testBit_or,(h.un b hb').2,Bool.false_or,decide_eq_false_iff_not]
  rintro rfl
  exact hnd hb
 ·have:=(List.perm_middle (a:=j) (l₁:=B1) (l₂:=B2)).nodup_iff.1 h.nd
  exact(List.nodup_cons.1 this).2

def Adds(x:Cx)(ops:Array Oper)(ε:Ev)(s:Spc):Prop:=
 ∃o,ops[s.1]? =some o∧o.dst=some s.2.1∧d_ o.dst x.n=true∧(∀c,o.op≠ .defer c)∧o.guard=none∧∀e,Cons ε e→∀F,Dx x o e F fun v F'=>∃A Lp,Lp.Perm F'∧s.2.2 v A∧Lp=A++F

theorem Cons.back{ε:Ev}{d:Nat}{v:Value}{e:Operand→Value}(h:Cons (upd ε (some d) v) e)(hd:ε d=none):Cons ε e:=fun y u hy=>h y u (by
 cases y with
 | tmp t=>
  simp only[UK,upd]at hy⊢
  cases hb:Nat.beq t d with
  | true=>rw[Nat.eq_of_beq_eq_true hb,hd]at hy;cases hy
  | false=>exact hy
 | _=>exact hy)

section rules
variable{x:Cx}{Q:Post}{ρ:Env}{ds:List Deferred}{F:ah}{ops:Array Oper}{L:ah}{fuel listed:Nat}
theorem Adds.of{i d:Nat}{P:Value→ah→Prop}{op:Op}{ty:TypeId}{pos:String}{bK:Array Edge}(ho:cO ops.toList i=some ⟨some d,op,ty,pos,bK,none⟩)(hd:Nat.blt d x.n=true)(hn:cu op=true)(H:∀F,Ef x ρ ⟨some d,op,ty,pos,bK,none⟩ F fun v F'=>∃A,P v A∧F'=A++F):Adds x ops (look ρ) (i,d,P):=
 ⟨_,aU ho,rfl,hd,gI hn,rfl,fun e he F=>(H F e fun y v hy=>he y v (by rw[DC];exact hy)).mono fun v F' ⟨Lp,p,A,hv,e⟩=>⟨A,Lp,p,hv,e⟩⟩
theorem Adds.call{i d f:Nat}{P:Value→ah→Prop}{args:List Operand}{ts:Array TypeId}{vs:List Value}{ty:TypeId}{pos:String}{bK:Array Edge}(H:∀h',Ext x.h h'→dV x.P x.main f vs.toArray h' [] P)(ho:cO ops.toList i=some ⟨some d,.call ⟨.value (.func f),args.toArray,ts⟩,ty,pos,bK,none⟩:=by rfl)[FB x.P f](hv:evs ρ args=some vs:=by rfl)(hd:Nat.blt d x.n=true:=by rfl):Adds x ops (look ρ) (i,d,P):=
 .of ho hd rfl fun F=>lQ rfl hv (fun h' hE _=>H h' hE) fun v A' hv=>⟨A',hv,rfl⟩
end rules
end Go.aS
namespace Go.aS
section
variable{α:Type}{row:α→List Value}{w:Nat}[rw':Rw row w]
section
variable{x:Cx}{ρ:Env}{F:ah}{o:Oper}{R:Value→ah→Prop}
end
end
section
variable{x:Cx}{S:ah→Prop}{ρ:Env}{o:Oper}
end
end Go.aS
namespace Go.aS
section
variable{x:Cx}{Q:Post}{ρ:Env}{ds:List Deferred}{ops:Array Oper}{G:ah}{y₁ y₂ y₃ y₄ agp agq:Nat×Obj}{id n:Nat}
end
end Go.aS
namespace Go.aS
end Go.aS

/- Slices of slices; makeSlice. Conditions: none; over any program. -/
namespace Go.aS
structure Sv where
  a:Option Addr
  n:Nat
  cap:Nat
abbrev Sv.val(s:Sv):Value:=.slice s.a s.n s.cap
section
variable{α:Type}{row:α→List Value}{w:Nat}[rw':Rw row w]{E:TypeId}
inductive UG(E:TypeId)(row:α→List Value)[Rw row w]:List Sv→List (List α)→ah→Prop
  | nil:UG E row [] [] []
  | cons {s:Sv} {l:List α} {A B:ah} {vs:List Sv} {ls:List (List α)}:Os E row s.val l A→UG E row vs ls B→UG E row (s::vs) (l::ls) (A++B)
theorem UG.len{vs:List Sv}{ls:List (List α)}{A:ah}(h:UG E row vs ls A):vs.length=ls.length:=by
  induction h with
  | nil=>rfl
  | cons _ _ ih=>simp[ih]
theorem UG.shut{vs:List Sv}{ls:List (List α)}{A:ah}(h:UG E row vs ls A):Shut A:=by
  induction h with
  | nil=>exact .nil
  | cons h _ ih=>exact h.shut.app ih
theorem UG.sl{vs:List Sv}{ls:List (List α)}{A:ah}{h':Hp}(h:UG E row vs ls A)(hL:∀b o,(b,o)∈A→h' b=some o):∀{k:Nat} {s:Sv} {l:List α},vs[k]? =some s→ls[k]? =some l→Sl h' row s.val l:=by
  induction h with
  | nil=>intro k s l hs;simp at hs
  | cons h1 _ ih=>
    intro k s l hs hl
    rcases k with _ | k
    · simp at hs hl;subst hs hl
      exact h1.sl fun b o hb=>hL b o (List.mem_append_left _ hb)
    · simp at hs hl
      exact ih (fun b o hb=>hL b o (List.mem_append_right _ hb)) hs hl
end
/-! makeSlice -/
section
variable{x:Cx}{ρ:Env}{F:ah}{o:Oper}{R:Value→ah→Prop}
theorem G8{t E by' n:Nat}{z:Value}{y y':Operand}(ho:o.op= .makeSlice t y y')[TD x.P t (.slice E)][TI x.P E 1 by' z #[z]](hy:ev ρ y=some (.int .i64 (n:Int)))(hy':ev ρ y'=some (.int .i64 (n:Int)))(hb:by'*n≤2 ^ 48∧n≤1000000)
    (K:∀β,R (.slice (some ⟨β,0,none⟩) n n) ((β,.cells (List.replicate n z).toArray E (0,0))::F)):Ef x ρ o F R:=
  Ef.xW fun e he h' hE=>by
    obtain⟨j,hj,hj1,hj2,hj3,hj4⟩:=TI.out (inferInstance:TI x.P E 1 by' z #[z])
    have hw:IntKind.i64.wrap (n:Int)=n:=nC (by omega) (by omega)
    have c1:¬((n:Int)<0):=by omega
    have c2:¬((by':Int)*(n:Int)>2 ^ 48):=by
                                                         have:((by'*n:Nat):Int)≤2 ^ 48:=by exact_mod_cast hb.1
                                                         rw[Int.natCast_mul]at this;omega
    have c3:¬((n:Int)>n):=by omega
    simp only[execOp,ho,he y _ hy,he y' _ hy',Instr.makeSlice,asInt,asIntOf,bind_eq,au,bind_assoc,bind_pure,aC,dJ hj,hj2,hw]
    simp only[c1,c2,c3,decide_false,Bool.or_false,Bool.false_eq_true,if_false]
    have room:∀{β:Type} {f:Unit→Sem β} {Q':β→ah→Prop},tr x.P h' (f ()) F Q'→tr x.P h' ((askRoom (((n:Int).toNat)*by')).bind f) F Q':=by
      intro β f Q' H
      unfold askRoom
      split
      · exact⟨rfl,H⟩
      · exact H
    refine bJ (room ?_)
    simp only[dH,Int.toNat_natCast,Nat.mul_one]
    have harr:(Array.range n).map (fun i=>(#[z]:Array Value)[i % (#[z]:Array Value).size]!)=(List.replicate n z).toArray:=by
      apply Array.ext
      · simp
      · intro i h1 h2
        simp[Nat.mod_one]
    by_cases h0:n=0
    · subst h0
      have e0:(Array.range 0).map (fun x=>(#[]:Array Value)[x % (#[]:Array Value).size]!)=(List.replicate 0 z).toArray:=by simp
      simp only[if_true,newRow,bind_eq,au,bind_assoc,bind_pure,e0]
      exact wI fun r h1 h2=>⟨_,.inl rfl,K r⟩
    · simp only[if_neg h0,fG,hj4,newRow,bind_eq,au,bind_assoc,bind_pure,harr]
      exact wI fun r h1 h2=>⟨_,.inl rfl,K r⟩
end
end Go.aS

/- Sets of qualities, as the laws keep them. Conditions: none; over the given program. -/
namespace Go.aS
set_option maxRecDepth 100000
set_option maxHeartbeats 4000000
abbrev V9(β:Nat):Value:=.slice (some ⟨β,0,none⟩) 13 13
abbrev bsO(f:Nat→Bool):Obj:=.cells (bA f) RS (0,0)
theorem QI:(List.replicate 13 (Value.bool false)).toArray=bA fun _=>false:=rfl
theorem V5(main:Side)(h:Hp)(q:Nat)(hq:q<13):dV prog main Ej #[I q] h [] (fun v A=>∃β,v=V9 β∧A=[(β,bsO fun o=>decide (o=q))]):=by
 refine dV.aG KE rfl (by show 1≤9;decide) [(0,I q)] ⟨rfl,trivial⟩ ?_
 have hsz:0+q*1<(bA fun _=>false).size:=by rw[nX];omega
 refine W.seq<|W.region rfl<|agb rfl rfl rfl<|pq<|W.seq<|W.region rfl ?_
 refine oe rfl wn rfl rfl (G8 (n:=13) rfl rfl rfl (by decide) (fun wC=>?_))
 rw[QI]
 refine agb rfl rfl rfl<|pq<|W.seq<|W.region rfl<|qm rfl rfl rfl<|qm rfl rfl rfl ?_
 refine ag3 rfl ?_
 refine Ops.yG ?_
 refine pq<|W.seq<|W.region rfl<|qm rfl rfl rfl<|agb rfl rfl rfl<|pq<|W.ret ?_
 refine mg (vs:=[_]) ⟨wC,rfl,?_⟩
 have e:(bA fun _=>false).setIfInBounds (0+q*1) (.bool true)=bA fun o=>decide (o=q):=by
  rw[show 0+q*1=q by omega,Og hq]
  exact qg fun i _=>by by_cases e:i=q <;>simp[e]
 rw[e]
theorem aco(main:Side)(h:Hp)(f:Nat→Bool)(β:Nat)(E:TypeId)(z:Nat×Nat)(hb:h β=some (.cells (bA f) E z)):Pu prog main LQ #[V9 β] h (.bool (acn f)):=by
 refine dV.aG RP rfl (by show 1≤14;decide) [(0,V9 β)] ⟨rfl,trivial⟩ ?_
 refine W.seq<|W.region rfl<|agb rfl rfl rfl<|pq<|W.seq<|W.seq<|W.region rfl<|agb rfl rfl rfl<|Ops.nil ?_
 refine aA<|W.block ?_
 refine W.loop (σ:=Nat) (fun k=>k≤13∧(List.range k).any f=false) (fun k=>[(3,I k),(0,V9 β)]) (fun _=>[]) (fun k=>13-k) 0 ⟨Nat.zero_le _,rfl⟩ ⟨rfl,rfl,trivial⟩ TW ?_
 rintro k ⟨hk,hno⟩
 refine W.seq<|W.seq<|W.region rfl<|qm rfl rfl rfl<|qm rfl rfl rfl ?_
 refine agW (dM rfl rfl) rfl ?_
 refine agW (fO rfl rfl rfl) rfl ?_
 refine pq ?_
 refine W.bC rfl (fun c7=>?_) (fun c7=>?_)
 ·have Vq:k<13:=by omega
  have hx:(bA f)[0+k*1]? =some (.bool (f k)):=by rw[show 0+k*1=k by omega];exact L9 Vq
  refine W.skip<|aA<|W.seq<|W.block<|W.seq<|W.region rfl<|qm rfl rfl rfl<|qm rfl rfl rfl ?_
  refine ag3 rfl ?_
  refine agX rfl ?_
  refine pq ?_
  refine W.cond rfl (fun c13=>?_) (fun c13=>?_)
  ·refine W.seq<|W.region rfl<|agb rfl rfl rfl<|pq<|W.ret<|cZ<|aY<|aY<|cZ ?_
   refine aY ?_
   refine uZ ?_
   refine congrArg Value.bool ?_
   symm
   exact List.any_eq_true.2 ⟨k,List.mem_range.2 Vq,c13⟩
  ·refine W.skip<|dI<|aA<|W.region rfl<|qm rfl rfl rfl ?_
   refine ag1 rfl ?_
   refine agb rfl rfl rfl<|pq ?_
   exact⟨rfl,k+1,⟨Vq,by rw[List.range_succ,List.any_append,hno];simpa using c13⟩,by omega,⟨rfl,rfl,trivial⟩,TW⟩
 ·obtain rfl:k=13:=by omega
  refine W.exit<|bP<|bP<|gG<|aA<|W.seq<|W.region rfl<|agb rfl rfl rfl<|pq ?_
  refine W.ret ?_
  refine uZ ?_
  exact congrArg Value.bool hno.symm
theorem Y5(main:Side)(h:Hp)(ps:List Pn)(vp:Value)(f:Nat→Bool)(β:Nat)(E:TypeId)(z:Nat×Nat)(hf:Sl h Pn.row vp ps)(hok:iP ps)(hb:h β=some (.cells (bA f) E z)):dV prog main GK #[vp,V9 β] h [] (fun v A=>∃β',v=V9 β'∧Sb [(β',bsO (acj ps f))] A):=by
 obtain⟨a,cap,rfl⟩:=hf.dA
 have h4:=hok.len
 refine dV.aG NY rfl (by show 2≤50;decide) [(0,.slice a ps.length cap),(1,V9 β)] ⟨rfl,rfl,trivial⟩ ?_
 refine W.seq<|W.region rfl<|agb rfl rfl rfl<|pq<|W.seq<|W.region rfl ?_
 refine oe rfl wn rfl rfl (G8 (n:=13) rfl rfl rfl (by decide) (fun yD=>?_))
 rw[QI]
 refine agb rfl rfl rfl<|pq<|W.seq<|W.seq<|W.region rfl<|agb rfl rfl rfl<|pq<|W.block ?_
 refine W.loop (σ:=Nat) (fun q=>q≤13) (fun q=>[(6,I q),(5,V9 yD),(0,.slice a ps.length cap),(1,V9 β)]) (fun q=>[(yD,bsO (Lh ps f q))]) (fun q=>13-q) 0 (Nat.zero_le _) ⟨rfl,rfl,rfl,rfl,trivial⟩ (.eq (eqc (qg fun i _=>by simp[Lh]))) ?_
 rintro q hq
 refine W.seq<|W.seq<|W.region rfl<|qm rfl rfl rfl ?_
 refine agW (Lr rfl rfl rfl) rfl ?_
 refine pq ?_
 refine W.bC rfl (fun c10=>?_) (fun c10=>?_)
 ·have Dn:q<13:=by omega
  have hfq:(bA f)[0+q*1]? =some (.bool (f q)):=by rw[show 0+q*1=q by omega];exact L9 Dn
  refine W.skip<|aA<|W.seq<|W.block<|W.seq<|W.region rfl<|agb rfl rfl rfl<|pq<|W.block ?_
  refine W.loop (σ:=Nat) (fun i=>i≤ps.length) (fun i=>[(7,I i),(6,I q),(5,V9 yD),(0,.slice a ps.length cap),(1,V9 β)]) (fun i=>[(yD,bsO (EY ps f q i))]) (fun i=>ps.length-i) 0 (Nat.zero_le _) ⟨rfl,rfl,rfl,rfl,rfl,trivial⟩ (.eq (by rw[V3])) ?_
  rintro i hi
  refine W.seq<|W.seq<|W.region rfl<|qm rfl rfl rfl<|qm rfl rfl rfl ?_
  refine agW (dM rfl rfl) rfl ?_
  refine agW (fO rfl rfl rfl) rfl ?_
  refine qm rfl rfl rfl ?_
  refine Ops.ask (fun abY=>?_) (fun abY=>?_)
  ·refine oq (aN rfl rfl) rfl (ak rfl rfl rfl) rfl rfl ?_
   refine oq (aN rfl rfl) rfl (ak rfl rfl rfl) rfl rfl ?_
   first | refine oq (G_ rfl rfl rfl) rfl (ak rfl rfl rfl) rfl rfl ?_ | refine oq (o_ rfl rfl rfl) rfl (ak rfl rfl rfl) rfl rfl ?_
   refine oq (iQ rfl rfl) rfl (ak rfl rfl rfl) rfl rfl ?_
   refine agW (dG rfl rfl rfl) rfl ?_
   refine pq ?_
   refine W.cond rfl (fun Qc=>?_) (fun Qc=>?_)
   ·have hil:i<ps.length:=by omega
    obtain⟨p,hp,-⟩:=has hil
    have hpi:=hok.pan p (List.mem_of_getElem? hp)
    obtain⟨b,off,c,E2,fz,rfl,hbb,hx,hy,hz⟩:=hf.at hp
    have hx':c.extract (off+i*3) (off+i*3+3)= #[I p.lo,I p.hi,I p.sh]:=hx
    have hz0:c[off+i*3+0]? =some (I p.lo):=hz 0 (by decide)
    have hz1:c[off+i*3+1]? =some (I p.hi):=hz 1 (by decide)
    clear hx hz
    obtain⟨on,hon⟩:∃on:Nat,p.out q=on:=⟨(p.out q).toNat,by unfold Pn.out;omega⟩
    have aec:on<13:=by unfold Pn.out at hon;omega
    have hsz:0+on*1<(bA (EY ps f q i)).size:=by rw[nX];omega
    refine W.skip<|aA<|W.seq<|W.block<|W.seq<|W.region rfl<|qm rfl rfl rfl<|qm rfl rfl rfl<|qm rfl rfl rfl ?_
    refine ag3 rfl ?_
    refine agY rfl ?_
    refine agX rfl ?_
    refine agW (IJ rfl rfl rfl) rfl ?_
    refine qm rfl rfl rfl ?_
    refine Ops.ask (fun afI=>?_) (fun afI=>?_)
    ·refine oq (aN rfl rfl) rfl (ak rfl rfl rfl) rfl rfl ?_
     refine oq (aN rfl rfl) rfl (ak rfl rfl rfl) rfl rfl ?_
     refine oq (aN rfl rfl) rfl (ak rfl rfl rfl) rfl rfl ?_
     first | refine oq (G_ rfl rfl rfl) rfl (ak rfl rfl rfl) rfl rfl ?_ | refine oq (o_ rfl rfl rfl) rfl (ak rfl rfl rfl) rfl rfl ?_
     refine oq (ay rfl rfl) rfl (ak rfl rfl rfl) rfl rfl ?_
     refine oq (iQ rfl rfl) rfl (ak rfl rfl rfl) rfl rfl ?_
     refine oq (Lr rfl rfl rfl) rfl (ak rfl rfl rfl) rfl rfl ?_
     refine agW (dG rfl rfl rfl) rfl ?_
     refine pq ?_
     refine W.bC rfl (fun c40=>?_) (fun c40=>?_)
     ·refine W.region rfl<|qm rfl rfl rfl<|qm rfl rfl rfl<|qm rfl rfl rfl ?_
      refine ag3 rfl ?_
      refine ag2 rfl ?_
      refine qm rfl rfl rfl ?_
      refine cp (fun h' hE hL=>ab_ _ h' p q (by omega) (by omega)) ?_
      rw[hon]
      refine ag3 rfl ?_
      refine Ops.yG ?_
      refine Ops.nil<|dI<|aA<|W.region rfl<|qm rfl rfl rfl ?_
      refine ag1 rfl ?_
      refine agb rfl rfl rfl<|pq ?_
      have ht:p.takes q=true:=by simp only[Pn.takes,Bool.and_eq_true,decide_eq_true_eq];omega
      refine⟨rfl,i+1,hil,by omega,⟨rfl,rfl,rfl,rfl,rfl,trivial⟩,.eq ?_⟩
      rw[show 0+on*1=on by omega,Og aec,YT hp Qc ht,hon]
      rfl
     ·refine W.skip<|dI<|aA<|W.region rfl<|qm rfl rfl rfl ?_
      refine ag1 rfl ?_
      refine agb rfl rfl rfl<|pq ?_
      have ht:p.takes q=false:=by
       simp only[Pn.takes,Bool.and_eq_false_iff,decide_eq_false_iff_not]
       first | exact .inr (by omega) | exact .inl (by omega)
      refine⟨rfl,i+1,hil,by omega,⟨rfl,rfl,rfl,rfl,rfl,trivial⟩,.eq ?_⟩
      rw[MI hp ht]
    ·refine Ops.no ?_
     refine Ops.no ?_
     refine Ops.no ?_
     refine Ops.no ?_
     refine Ops.no ?_
     refine Ops.no ?_
     refine Ops.no ?_
     refine agW (iH rfl rfl rfl) rfl ?_
     refine pq ?_
     refine W.bZ ?_
     refine W.skip<|dI<|aA<|W.region rfl<|qm rfl rfl rfl ?_
     refine ag1 rfl ?_
     refine agb rfl rfl rfl<|pq ?_
     have ht:p.takes q=false:=by
      simp only[Pn.takes,Bool.and_eq_false_iff,decide_eq_false_iff_not]
      first | exact .inr (by omega) | exact .inl (by omega)
     refine⟨rfl,i+1,hil,by omega,⟨rfl,rfl,rfl,rfl,rfl,trivial⟩,.eq ?_⟩
     rw[MI hp ht]
   ·refine W.exit<|bP<|bP<|gG<|dI<|aA<|W.region rfl<|qm rfl rfl rfl ?_
    refine ag1 rfl ?_
    refine agb rfl rfl rfl<|pq ?_
    refine⟨rfl,q+1,Dn,by omega,⟨rfl,rfl,rfl,rfl,trivial⟩,.eq ?_⟩
    rw[QG (by first | exact .inr Qc | exact .inl (by omega))]
  ·refine Ops.no ?_
   refine Ops.no ?_
   refine Ops.no ?_
   refine Ops.no ?_
   refine agW (iH rfl rfl rfl) rfl ?_
   refine pq ?_
   refine W.bZ ?_
   refine W.exit<|bP<|bP<|gG<|dI<|aA<|W.region rfl<|qm rfl rfl rfl ?_
   refine ag1 rfl ?_
   refine agb rfl rfl rfl<|pq ?_
   refine⟨rfl,q+1,Dn,by omega,⟨rfl,rfl,rfl,rfl,trivial⟩,.eq ?_⟩
   rw[QG (by first | exact .inr Qc | exact .inl (by omega))]
 ·obtain rfl:q=13:=by omega
  refine W.exit<|bP<|bP<|gG<|aA<|W.seq<|W.region rfl<|qm rfl rfl rfl<|agb rfl rfl rfl<|Ops.nil ?_
  refine aA<|W.ret ?_
  exact mg (vs:=[_]) ⟨yD,rfl,.refl⟩
end Go.aS

/- SyrupLongest. Conditions: none; over the given program. -/
namespace Go.aS
set_option maxRecDepth 100000
set_option maxHeartbeats 4000000
theorem UH{ps:List Pn}{q:Int}(h:nV ps=0)(h0:0≤q)(h1:q≤12):kU ps [q]=0:=by
 have:¬outs q 0 12:=by unfold outs;omega
 simp[kU,h,this]
end Go.aS

/- From where syrups go round for ever: the list. Conditions: none; over the given program. -/
namespace Go.aS
set_option maxRecDepth 100000
set_option maxHeartbeats 4000000
def qsL(f:Nat→Bool):List Nat:=(List.range 13).filter f
theorem afm{f:Nat→Bool}{q:Nat}:q∈qsL f↔q<13∧f q=true:=by simp[qsL]
theorem afn{f:Nat→Bool}:(qsL f).length≤13:=Nat.le_trans (List.length_filter_le ..) (by simp)
theorem ae1(main:Side)(h:Hp)(f:Nat→Bool):dV prog main aaV #[.agg (bA f)] h [] (fun v A=>∃S,Os dL fH v (zs (qsL f)) S∧Sb S A):=by
 refine dV.aG aa2 rfl (by show 1≤18;decide) [(0,.agg (bA f))] ⟨rfl,trivial⟩ ?_
 have hsz:(bA f).size=13:=nX
 have hon:ones (bA f).toList=true:=Un
 refine W.seq<|W.region rfl ?_
 refine Ops.box (cs:=bA f) (fun β1=>?_)
 refine agb rfl rfl rfl<|pq<|W.seq<|W.region rfl<|agb rfl rfl rfl<|pq<|W.seq<|W.seq ?_
 refine W.region rfl ?_
 refine ag2 rfl ?_
 refine qm rfl rfl rfl<|pq<|W.block ?_
 refine W.Js (fun(k:Nat) (v:Value) (S:ah)=>k≤13∧Os dL fH v (zs ((List.range k).filter f)) S) (fun k v S=>[(7,I k),(6,.agg (bA f)),(3,v),(1,.pointer (some ⟨β1,0,none⟩))]) (fun k v S=>S++[(β1,.cells (bA f) aP (0,0))]) (fun k _ _=>13-k) 0 (.slice none 0 0) [] ⟨Nat.zero_le _,.nil .nil⟩ ⟨rfl,rfl,rfl,rfl,trivial⟩ .refl ?_
 rintro k v S ⟨hk,hS⟩
 refine W.seq<|W.region rfl ?_
 refine agW (fO rfl rfl rfl) rfl ?_
 refine pq<|W.seq ?_
 refine W.bC rfl (fun c8=>?_) (fun c8=>?_)
 ·have Vq:k<13:=by omega
  have hlen:(zs ((List.range k).filter f)).length≤13:=by rw[kT];exact Nat.le_trans (List.length_filter_le ..) (by simp;omega)
  refine W.skip<|aA<|W.seq<|W.block<|W.seq<|W.region rfl<|qm rfl rfl rfl ?_
  refine agW (Ti (n:=k) (v:=.bool (f k)) rfl rfl rfl (by omega) (by omega) (by rw[Int.toNat_natCast,Nat.mul_one];exact L9 Vq)) rfl ?_
  refine agb rfl rfl rfl<|agb rfl rfl rfl<|pq<|W.seq<|W.region rfl<|qm rfl rfl rfl<|pq ?_
  refine W.cond rfl (fun c11=>?_) (fun c11=>?_)
  ·refine W.region rfl<|qm rfl rfl rfl<|qm rfl rfl rfl ?_
   refine Ops.NK (cs:= #[I k]) (fun aht=>?_) rfl
   refine oe rfl wn rfl rfl (iW (row:=fH) (l':=[(k:Int)]) rfl rfl rfl hS (.tail .head) (fun h2 _ hl=>Sl.mk (hl aht _ (.head _)) rfl (Part.all [I k])) (by simp;omega) (by decide) rfl (fun v' S' hS'=>?_))
   refine agb rfl rfl rfl<|Ops.nil<|dI<|aA<|W.region rfl ?_
   refine ag1 rfl ?_
   refine qm rfl rfl rfl<|pq ?_
   exact⟨rfl,k+1,v',S',⟨by omega,by rw[List.range_succ,List.filter_append,X3];simpa[zs,c11]using hS'⟩,by omega,⟨rfl,rfl,rfl,rfl,trivial⟩,.skip rfl .refl⟩
  ·refine W.skip<|dI<|aA<|W.region rfl ?_
   refine ag1 rfl ?_
   refine qm rfl rfl rfl<|pq ?_
   exact⟨rfl,k+1,v,S,⟨by omega,by rw[List.range_succ,List.filter_append,X3];simpa[zs,c11]using hS⟩,by omega,⟨rfl,rfl,rfl,rfl,trivial⟩,.refl⟩
 ·refine W.exit<|bP<|bP<|gG<|aA<|W.seq<|W.region rfl<|qm rfl rfl rfl<|agb rfl rfl rfl<|Ops.nil ?_
  refine aA<|W.ret ?_
  obtain rfl:k=13:=by omega
  exact mg (vs:=[v]) ⟨S,hS,.right .refl (.cons rfl .nil)⟩
def aef(ps:List Pn):List Nat×Int:=if nV ps≠0 then([],nV ps)else(qsL fun k=>dD (dO ps 0) 13 k,0)
theorem afo(main:Side)(h:Hp)(ps:List Pn)(vp:Value)(hf:Sl h Pn.row vp ps):dV prog main abZ #[vp] h [] (fun v A=>∃w S,v= .tuple #[w,I (aef ps).2]∧Os dL fH w (zs (aef ps).1) S∧Sb S A):=by
 obtain⟨a,cap,rfl⟩:=hf.dA
 refine dV.aG adO rfl (by show 1≤17;decide) [(0,.slice a ps.length cap)] ⟨rfl,trivial⟩ ?_
 have hbe:kU ps []=nV ps:=by unfold kU;split <;>simp_all
 refine W.seq<|W.region rfl<|agb rfl rfl rfl<|agb rfl rfl rfl<|pq<|W.seq<|W.region rfl<|qm rfl rfl rfl ?_
 refine cp (fun h' hE hL=>Am _ h' ps (.slice a ps.length cap) [] _ (hf.ext hE) .nil (by simp)) ?_
 refine qm rfl rfl rfl<|oq (bD rfl rfl rfl) rfl wn rfl rfl<|oq (bD rfl rfl rfl) rfl wn rfl rfl ?_
 have hcs:∃cs:Array Value,(if kU ps []=0 then xJ (.slice a ps.length cap) 0 else LZ)= .agg cs∧cs.size=2∧ones cs.toList=true:=by
  split
  ·exact⟨_,rfl,rfl,rfl⟩
  ·exact⟨_,rfl,rfl,rfl⟩
 obtain⟨cs,hcs,hcs2,hcs1⟩:=hcs
 rw[hcs,hbe]
 refine Ops.new (fun wC=>?_)
 refine Ops.jP (n:=2) (vs:=cs) ?_ (hy:=by rfl) (hn:=hcs2) (h1:=hcs1)
 refine agb rfl rfl rfl<|pq<|W.seq<|W.seq<|W.region rfl<|qm rfl rfl rfl ?_
 refine agW (nG rfl rfl rfl) rfl ?_
 refine pq ?_
 refine W.bC rfl (fun c12=>?_) (fun c12=>?_)
 ·refine W.seq<|W.region rfl<|qm rfl rfl rfl<|agb rfl rfl rfl<|agb rfl rfl rfl<|pq<|W.ret<|aY ?_
  refine mg (vs:=[_,_]) ?_
  rw[aef,if_pos (by simpa using c12)]
  exact⟨_,[],rfl,.nil .nil,.nil (by repeat(first | exact Shut.nil | refine Shut.cons rfl ?_))⟩
 ·have h0:nV ps=0:=by simpa using c12
  rw[if_pos (by rw[hbe];exact h0)]at hcs
  cases hcs
  refine W.skip<|aA<|W.seq<|W.region rfl ?_
  refine ag2 rfl ?_
  refine cp (fun h' hE hL=>Uo _ h' ps _ 0 (hf.ext hE) (iP.yB h0) (by decide)) ?_
  refine c0 (fun h' hE hL=>ae1 _ h' _) (fun v A' hv=>?_)
  obtain⟨S,hS,hsb⟩:=hv
  refine agb rfl rfl rfl<|agb rfl rfl rfl<|pq<|W.ret ?_
  refine mg (vs:=[_,_]) ?_
  rw[aef,if_neg (by simpa using h0)]
  exact⟨_,S,rfl,hS,.right hsb (.cons rfl .nil)⟩
theorem ae4{ps:List Pn}(h:nV ps=0):aef ps=(qsL fun k=>dD (dO ps 0) 13 k,0):=by rw[aef,if_neg (by simpa using h)]
end Go.aS

/- Comparing truth values. Conditions: none; over any program. -/
namespace Go.aS
section
variable{x:Cx}{ρ:Env}{S:ah→Prop}{o:Oper}{v:Value}
theorem af2{P:Program}{t:TypeId}[TD P t .bool](n:Nat){a b:Bool}{h:Hp}{F:ah}{β:Type}{f:Bool→Sem β}{Q:β→ah→Prop}:tr P h ((Op.equalIn (n+1) t (.bool a) (.bool b)).bind f) F Q=tr P h (f (a==b)) F Q:=by
 simp only[Op.equalIn,bind_eq,au,bind_assoc,bind_pure,aC,if_true]
theorem ae9{t t':TypeId}{y z:Operand}{a b:Bool}(ho:o.op= .binOp .neq t y z t')[TD x.P t .bool](hy:ev ρ y=some (.bool a))(hz:ev ρ z=some (.bool b)):Yv x S ρ o (.bool (!(a==b))):=fun e he F hF h' hE=>by
 have hg:eqGuard .neq t y z (.bool a) (.bool b)= .pure ():=by unfold eqGuard;split <;>rfl
 simp only[execOp,ho,he y _ hy,he z _ hz,hg,bind_eq,au,bind_assoc,bind_pure,binOp]
 have:= @af2 x.P t _ 9999 a b h' F Next (fun r=>Sem.pure (Next.value (.bool !r))) (fun nx F'=>nx= .value (.bool (!(a==b)))∧F'=F)
 refine this.mpr ⟨rfl,rfl⟩
end
end Go.aS

/- What goes round for ever comes to a ring. Conditions: none; no program in sight. -/
namespace Go.aS
set_option linter.unusedVariables false
def rgB(g:yV)(k:Nat):Bool:=((Ah g k).find? fun w=>decide (1≤w.1.length)&&decide (w.2=k)).isSome
theorem afs{g:yV}(hg:Ui g)(hn:∀k p o,(p,o)∈g k→o<13){k:Nat}:rgB g k=true↔∃v,v≠[]∧qJ g k v k:=by
 obtain⟨met,H⟩:=aee hg (q:=k) hn
 rw[rgB,List.find?_isSome]
 constructor
 ·rintro⟨w,hw,h⟩
  simp only[Bool.and_eq_true,decide_eq_true_eq]at h
  have:=H.path w (by simpa using hw)
  rw[h.2]at this
  exact⟨w.1,fun e=>by rw[e]at h;simp at h,this⟩
 ·rintro⟨v,hv,h⟩
  obtain⟨w,hw,h1,-,h3⟩:=H.all v k h
  refine⟨w,hw,?_⟩
  simp only[Bool.and_eq_true,decide_eq_true_eq]
  exact⟨List.length_pos_iff.2 (h3 hv),h1⟩
theorem acs{g:yV}(hn:∀k p o,(p,o)∈g k→o<13):∀{v:List Nat} {q e:Nat},q<13→qJ g q v e→e<13
 | [],q,e,hq,h=>by have:q=e:=h;omega
 | p::r,q,e,hq,⟨o,h1,h2⟩=>acs hn (hn _ _ _ h1) h2
theorem acu{g:yV}(hn:∀k p o,(p,o)∈g k→o<13):∀{v:List Nat} {q e:Nat},q<13→qJ g q v e→
  ∃l:List Nat,l.length=v.length+1∧(∀x∈l,x<13∧∃a b,v=a++b∧qJ g q a x∧qJ g x b e)∧(l.Nodup∨∃a b c k,v=a++(b++c)∧b≠[]∧qJ g q a k∧qJ g k b k)
 | [],q,e,hq,h=>⟨[q],rfl,fun x hx=>by rw[List.mem_singleton.1 hx];exact⟨hq,[],[],rfl,rfl,h⟩,.inl (by simp)⟩
 | p::r,q,e,hq,⟨o,h1,h2⟩=>by
  obtain⟨l,hl,hm,hd⟩:=acu hn (hn _ _ _ h1) h2
  refine⟨q::l,by simp[hl],fun x hx=>?_,?_⟩
  ·rcases List.mem_cons.1 hx with rfl | hx
   ·exact⟨hq,[],p::r,rfl,rfl,o,h1,h2⟩
   ·obtain⟨h3,a,b,rfl,h4,h5⟩:=hm x hx
    exact⟨h3,p::a,b,rfl,⟨o,h1,h4⟩,h5⟩
  ·rcases hd with hd | ⟨a,b,c,k,rfl,hb,h3,h4⟩
   ·by_cases RF:q∈l
    ·obtain⟨_,a,b,rfl,h4,h5⟩:=hm q RF
     exact .inr ⟨[],p::a,b,q,rfl,by simp,rfl,o,h1,h4⟩
    ·exact .inl (List.nodup_cons.2 ⟨RF,hd⟩)
   ·exact .inr ⟨p::a,b,c,k,rfl,hb,⟨o,h1,h3⟩,h4⟩
theorem aeg{g:yV}{k:Nat}{b:List Nat}(hb:b≠[])(h:qJ g k b k):∀m:Nat,∃v,m≤v.length∧qJ g k v k
 | 0=>⟨[],Nat.zero_le _,rfl⟩
 | m+1=>by
  obtain⟨v,h1,h2⟩:=aeg hb h m
  refine⟨b++v,?_,F7.2 ⟨k,h,h2⟩⟩
  have:=List.length_pos_iff.2 hb
  rw[List.length_append];omega
theorem aeT{g:yV}(hn:∀k p o,(p,o)∈g k→o<13){q:Nat}(hq:q<13):dD g 13 q=true↔∃n,n<14∧∃k,k<13∧(∃v,v.length=n∧qJ g q v k)∧∃v,v≠[]∧qJ g k v k:=by
 constructor
 ·intro h
  obtain⟨v,e,h1,h2⟩:=JJ.1 h
  obtain⟨l,hl,hm,hd⟩:=acu hn hq h2
  rcases hd with hd | ⟨a,b,c,k,rfl,hb,h3,h4⟩
  ·have:=JH hd (fun x hx=>(hm x hx).1)
   omega
  ·simp only[List.length_append]at h1
   exact⟨a.length,by omega,k,acs hn hq h3,⟨a,rfl,h3⟩,b,hb,h4⟩
 ·rintro⟨n,-,k,-,⟨a,-,h3⟩,b,hb,h4⟩
  obtain⟨v,h5,h6⟩:=aeg hb h4 13
  exact Vk (m:=(a++v).length) (by rw[List.length_append];omega) (JJ.2 ⟨_,_,rfl,F7.2 ⟨k,h3,h6⟩⟩)

def acw(ps:List Pn)(q n:Nat):Bool:=(List.range n).any fun i=>(List.range 13).any fun k=>OD ps q i k&&rgB (dO ps 0) k
def aa0(ps:List Pn)(q n k:Nat):Bool:=acw ps q n|| (List.range k).any fun k=>OD ps q n k&&rgB (dO ps 0) k
theorem aeE{ps:List Pn}{q n:Nat}:aa0 ps q n 0=acw ps q n:=by simp[aa0]
theorem acX{ps:List Pn}{q n k:Nat}:aa0 ps q n (k+1)=(aa0 ps q n k|| (OD ps q n k&&rgB (dO ps 0) k)):=by
 simp[aa0,List.range_succ,Bool.or_assoc]
theorem ac3{ps:List Pn}{q n:Nat}:acw ps q (n+1)=aa0 ps q n 13:=by
 simp[acw,aa0,List.range_succ]
theorem abA{ps:List Pn}{q n k:Nat}(hk:k≤13)(h:k=13∨aa0 ps q n k=true):aa0 ps q n k=acw ps q (n+1):=by
 rcases h with rfl | h
 ·rw[ac3]
 ·rw[h,ac3,aa0]
  rw[aa0,Bool.or_eq_true]at h
  rcases h with h | h
  ·rw[h];rfl
  ·obtain⟨i,hi,h⟩:=List.any_eq_true.1 h
   rw[List.any_eq_true.2 ⟨i,List.mem_range.2 (by have:=List.mem_range.1 hi;omega),h⟩,Bool.or_true]
theorem aeF{ps:List Pn}{q:Nat}(h4:ps.length≤4)(hq:q<13):acw ps q 14=dD (dO ps 0) 13 q:=by
 rw[Bool.eq_iff_iff,aeT F9 hq]
 simp only[acw,List.any_eq_true,List.mem_range,Bool.and_eq_true,afs afX F9,EZ h4 hq]
end Go.aS

/- SyrupEver. Conditions: none; over the given program. -/
namespace Go.aS
set_option maxRecDepth 100000
set_option maxHeartbeats 4000000
theorem aeV{ps:List Pn}{k:Nat}(h:nV ps=0)(hk:k<13):(ET ps k).2=if rgB (dO ps 0) k then 0 else 11:=by
 have hb:kU ps [(k:Int)]=0:=UH h (by omega) (by omega)
 rw[ET,if_neg (by rw[hb];simp),rgB,Int.toNat_natCast]
 show(match(Ah (dO ps 0) k).find? (fun w:Wy=>decide (1≤w.1.length)&&decide (w.2=k))with | some w=>(w.1,(0:Int)) | none=>([],11)).2=_
 split <;>rename_i h' <;>rw[h'] <;>rfl
theorem adX(main:Side)(hS:∀S,main.ok S→∃Fin,S=Mo prog Fin)(hmb:main.b=true)(h:Hp)(nums:List Int)(lv:Value)(Eg:TypeId)(zg:Nat×Nat)(hl:Sl h fH lv nums)(hg:h 0=some (.cells #[Ur qM] Eg zg))(z0:h.z 0):QE prog main aai #[lv] h (.bool true):=by
 refine QE.aG aaQ rfl (by show 1≤84;decide) [(0,lv)] ⟨rfl,trivial⟩ ?_
 refine W.seq<|W.region rfl<|agb rfl rfl rfl<|pq<|W.seq<|W.region rfl<|qm rfl rfl rfl ?_
 refine c0 (fun h' hE hL=>VQ _ h' nums lv (hl.ext hE)) (fun v A' hv=>?_)
 obtain⟨b,s0,rfl,rfl⟩:=hv
 refine cg (A:=[(b,wF lv 0 s0)]) .head (fun h' hE hL=>VT _ h' nums lv b 0 s0 4 (hl.ext hE) (by omega) (by omega)) (fun v A' hv=>?_)
 obtain⟨ps,Sp,k',s',hO,⟨hpl,hck⟩,-,hsb⟩:=hv
 refine Ops.sb (F':=Sp++[]) (by simpa using(Sb.skip rfl Sb.refl).trans hsb) ?_
 have hps:=aaD hpl hck
 have hok:=iP.yB hps
 have h4:=hok.len
 refine agb rfl rfl rfl<|pq ?_
 refine JU hO (fun hz hEz hsl hzs=>?_)
 obtain⟨a,cap,rfl⟩:=hsl.dA
 have hgz:=hEz.1 _ _ hg
 refine W.seq<|W.region rfl<|qm rfl rfl rfl ?_
 refine c0 (fun h' hE hL=>afo _ h' ps _ (hsl.ext hE)) (fun v A' hv=>?_)
 obtain⟨w,S,rfl,hS1,Oh⟩:=hv
 rw[ae4 hps]at hS1⊢
 dsimp only at hS1
 refine Ops.sb (F':=S++[]) (by simpa using Oh) ?_
 refine qm rfl rfl rfl<|oq (bD rfl rfl rfl) rfl wn rfl rfl<|oq (bD rfl rfl rfl) rfl wn rfl rfl<|agb rfl rfl rfl<|agb rfl rfl rfl<|pq ?_
 refine JU hS1 (fun hz2 agM hsl2 ahQ=>?_)
 obtain⟨a2,cap2,rfl⟩:=hsl2.dA
 rw[kT]at hsl2⊢
 replace hgz:=agM.1 _ _ hgz
 replace hsl:=hsl.ext agM
 have RF:(qsL fun k=>dD (dO ps 0) 13 k).length≤13:=afn
 refine W.seq<|W.seq<|W.region rfl<|qm rfl rfl rfl ?_
 refine agW (nG rfl rfl rfl) rfl ?_
 refine pq ?_
 refine W.bC rfl (fun c23=>?_) (fun c23=>?_)
 ·refine W.seq<|W.region rfl<|agb rfl rfl rfl<|pq<|W.ret<|aY ?_
  exact absurd rfl c23
 ·refine W.skip<|aA<|W.seq<|W.seq<|W.region rfl<|agb rfl rfl rfl<|pq<|W.block ?_
  refine W.loop (σ:=Nat) (fun q=>q≤13) (fun q=>[(6,I q),(4,.slice a2 (qsL fun k=>dD (dO ps 0) 13 k).length cap2),(3,.slice a ps.length cap)]) (fun _=>[]) (fun q=>13-q) 0 (Nat.zero_le _) ⟨rfl,rfl,rfl,trivial⟩ TW ?_
  rintro q hq
  refine W.seq<|W.seq<|W.region rfl<|qm rfl rfl rfl ?_
  refine agW (Lr rfl rfl rfl) rfl ?_
  refine pq ?_
  refine W.bC rfl (fun c25=>?_) (fun c25=>?_)
  ·have Dn:q<13:=by omega
   refine W.skip<|aA<|W.seq<|W.block<|W.seq<|W.region rfl<|qm rfl rfl rfl ?_
   refine c0 (fun h' hE hL=>V5 _ h' q Dn) (fun v A' hv=>?_)
   obtain⟨β,rfl,rfl⟩:=hv
   refine agb rfl rfl rfl<|agb rfl rfl rfl<|pq<|W.seq<|W.seq<|W.region rfl<|agb rfl rfl rfl<|pq ?_
   refine W.block ?_
   refine W.aa1 (fun(n:Nat) (β:Nat)=>n≤14) (fun n β=>[(9,I n),(8,.bool (acw ps q n)),(7,V9 β),(6,I q),(4,.slice a2 (qsL fun k=>dD (dO ps 0) 13 k).length cap2),(3,.slice a ps.length cap)]) (fun n β=>[(β,bsO (OD ps q (min n 13)))]) (fun n _=>14-n) 0 β (Nat.zero_le _) ⟨rfl,rfl,rfl,rfl,rfl,rfl,trivial⟩ .refl ?_
   rintro n β hn
   refine W.seq<|W.seq<|W.region rfl<|qm rfl rfl rfl ?_
   refine agW (Lr rfl rfl rfl) rfl ?_
   refine pq ?_
   refine W.bC rfl (fun c31=>?_) (fun c31=>?_)
   ·have agu:n<14:=by omega
    refine W.skip<|aA<|W.seq<|W.block<|W.seq<|W.seq<|W.region rfl<|agb rfl rfl rfl<|pq ?_
    refine W.block ?_
    refine W.loop (σ:=Nat) (fun k=>k≤13) (fun k=>[(10,I k),(8,.bool (aa0 ps q n k)),(9,I n),(7,V9 β),(6,I q),(4,.slice a2 (qsL fun k=>dD (dO ps 0) 13 k).length cap2),(3,.slice a ps.length cap)]) (fun _=>[(β,bsO (OD ps q n))]) (fun k=>13-k) 0 (Nat.zero_le _) ⟨rfl,lk rfl (by rw[aeE]),rfl,rfl,rfl,rfl,rfl,trivial⟩ (.eq (by rw[show min n 13=n by omega])) ?_
    rintro k hk
    refine W.seq<|W.seq<|W.region rfl<|qm rfl rfl rfl ?_
    refine agW (Lr rfl rfl rfl) rfl ?_
    refine qm rfl rfl rfl ?_
    refine Ops.ask (fun agN=>?_) (fun agN=>?_)
    ·refine oq (aN rfl rfl) rfl (ak rfl rfl rfl) rfl rfl ?_
     refine oq (xU rfl rfl) rfl (ak rfl rfl rfl) rfl rfl ?_
     refine agW (dG rfl rfl rfl) rfl ?_
     refine pq ?_
     refine W.cond rfl (fun Ic=>?_) (fun Ic=>?_)
     ·have Vq:k<13:=by omega
      have hx:(bA (OD ps q n))[0+k*1]? =some (.bool (OD ps q n k)):=by rw[show 0+k*1=k by omega];exact L9 Vq
      refine W.skip<|aA<|W.seq<|W.block<|W.seq<|W.region rfl<|qm rfl rfl rfl<|qm rfl rfl rfl ?_
      refine ag3 rfl ?_
      refine agX rfl ?_
      refine pq ?_
      refine W.cond rfl (fun c45=>?_) (fun c45=>?_)
      ·refine W.seq<|W.region rfl<|qm rfl rfl rfl<|qm rfl rfl rfl ?_
       refine c0 (fun h' hE hL=>aao _ h' ps _ k (hsl.ext hE)) (fun v A' hv=>?_)
       obtain⟨w,S,rfl,hw,afy⟩:=hv
       refine Ops.sb (F':=[(β,bsO (OD ps q n))]) (Sb.left .refl (Sb.trans (.nil hw.1) afy).shut) ?_
       rw[aeV hps Vq]
       obtain⟨e,he,hre⟩:∃e:Int,(if rgB (dO ps 0) k then(0:Int)else 11)=e∧((e=0∧rgB (dO ps 0) k=true)∨(e=11∧rgB (dO ps 0) k=false)):=by
        by_cases hr:rgB (dO ps 0) k=true
        ·exact⟨0,if_pos hr,.inl ⟨rfl,hr⟩⟩
        ·exact⟨11,if_neg hr,.inr ⟨rfl,by simpa using hr⟩⟩
       rw[he]
       have hnr:aa0 ps q n k=false:=by simpa using Ic
       have hrk:aa0 ps q n (k+1)=decide (e=0):=by
        rw[acX,hnr,c45]
        rcases hre with⟨rfl,hr⟩ | ⟨rfl,hr⟩ <;>rw[hr] <;>rfl
       refine qm rfl rfl rfl<|oq (bD rfl rfl rfl) rfl wn rfl rfl<|oq (bD rfl rfl rfl) rfl wn rfl rfl<|agb rfl rfl rfl<|agb rfl rfl rfl<|pq<|W.seq<|W.seq<|W.region rfl ?_
       refine qm rfl rfl rfl ?_
       refine agW (nG rfl rfl rfl) rfl ?_
       refine qm rfl rfl rfl ?_
       refine Ops.ask (fun agO=>?_) (fun agO=>?_)
       ·refine oq (aN rfl rfl) rfl (ak rfl rfl rfl) rfl rfl ?_
        refine oq (nG rfl rfl rfl) rfl (ak rfl rfl rfl) rfl rfl ?_
        refine agW (dG rfl rfl rfl) rfl ?_
        refine pq ?_
        refine W.bC rfl (fun c57=>?_) (fun c57=>?_)
        ·refine W.seq<|W.region rfl<|agb rfl rfl rfl<|pq<|W.ret<|aY<|cZ<|aY<|aY ?_
         refine cZ<|aY<|cZ<|aY<|aY<|cZ<|aY<|cZ<|aY<|aY ?_
         refine cZ<|aY ?_
         exfalso;omega
        ·refine W.skip<|aA<|W.region rfl<|qm rfl rfl rfl ?_
         refine agW (nD rfl rfl rfl) rfl ?_
         refine agb rfl rfl rfl<|Ops.nil<|dI<|aA<|W.region rfl<|qm rfl rfl rfl ?_
         refine ag1 rfl ?_
         refine agb rfl rfl rfl<|pq ?_
         exact⟨rfl,k+1,Vq,by omega,⟨rfl,lk rfl (congrArg Value.bool hrk.symm),rfl,rfl,rfl,rfl,rfl,trivial⟩,.refl⟩
       ·refine Ops.no ?_
        refine Ops.no ?_
        refine agW (iH rfl rfl rfl) rfl ?_
        refine pq ?_
        refine W.bZ ?_
        refine W.skip<|aA<|W.region rfl<|qm rfl rfl rfl ?_
        refine agW (nD rfl rfl rfl) rfl ?_
        refine agb rfl rfl rfl<|Ops.nil<|dI<|aA<|W.region rfl<|qm rfl rfl rfl ?_
        refine ag1 rfl ?_
        refine agb rfl rfl rfl<|pq ?_
        exact⟨rfl,k+1,Vq,by omega,⟨rfl,lk rfl (congrArg Value.bool hrk.symm),rfl,rfl,rfl,rfl,rfl,trivial⟩,.refl⟩
      ·refine W.skip<|dI<|aA<|W.region rfl<|qm rfl rfl rfl ?_
       refine ag1 rfl ?_
       refine agb rfl rfl rfl<|pq ?_
       exact⟨rfl,k+1,Vq,by omega,⟨rfl,lk rfl (congrArg Value.bool (by rw[acX,c45];simp)),rfl,rfl,rfl,rfl,rfl,trivial⟩,.refl⟩
     ·refine W.exit<|bP<|bP<|gG<|aA<|W.seq<|W.region rfl<|qm rfl rfl rfl ?_
      refine agW (Lr rfl rfl rfl) rfl ?_
      refine pq ?_
      refine W.bC rfl (fun c61=>?_) (fun c61=>?_)
      ·refine W.region rfl<|qm rfl rfl rfl<|qm rfl rfl rfl ?_
       refine c0 (fun h' hE hL=>Y5 _ h' ps _ (OD ps q n) β _ _ (hsl.ext hE) hok (hL β _ (.head _))) (fun v A' hv=>?_)
       obtain⟨β',rfl,af4⟩:=hv
       refine Ops.sb (F':=[(β',bsO (OD ps q (n+1)))]) (.right af4 (.cons rfl .nil)) ?_
       refine agb rfl rfl rfl<|Ops.nil<|dI<|aA<|W.region rfl<|qm rfl rfl rfl ?_
       refine ag1 rfl ?_
       refine agb rfl rfl rfl<|pq ?_
       exact⟨rfl,n+1,β',by omega,by omega,⟨rfl,lk rfl (congrArg Value.bool (abA hk (by first | exact .inr (by simpa using Ic) | exact .inl (by omega)))),rfl,rfl,rfl,rfl,trivial⟩,.eq (by rw[show min (n+1) 13=n+1 by omega])⟩
      ·refine W.skip<|dI<|aA<|W.region rfl<|qm rfl rfl rfl ?_
       refine ag1 rfl ?_
       refine agb rfl rfl rfl<|pq ?_
       exact⟨rfl,n+1,β,by omega,by omega,⟨rfl,lk rfl (congrArg Value.bool (abA hk (by first | exact .inr (by simpa using Ic) | exact .inl (by omega)))),rfl,rfl,rfl,rfl,trivial⟩,.eq (by rw[show min (n+1) 13=n by omega])⟩
    ·refine Ops.no ?_
     refine Ops.no ?_
     refine agW (iH rfl rfl rfl) rfl ?_
     refine pq ?_
     refine W.bZ ?_
     refine W.exit<|bP<|bP<|gG<|aA<|W.seq<|W.region rfl<|qm rfl rfl rfl ?_
     refine agW (Lr rfl rfl rfl) rfl ?_
     refine pq ?_
     refine W.bC rfl (fun c61=>?_) (fun c61=>?_)
     ·refine W.region rfl<|qm rfl rfl rfl<|qm rfl rfl rfl ?_
      refine c0 (fun h' hE hL=>Y5 _ h' ps _ (OD ps q n) β _ _ (hsl.ext hE) hok (hL β _ (.head _))) (fun v A' hv=>?_)
      obtain⟨β',rfl,af4⟩:=hv
      refine Ops.sb (F':=[(β',bsO (OD ps q (n+1)))]) (.right af4 (.cons rfl .nil)) ?_
      refine agb rfl rfl rfl<|Ops.nil<|dI<|aA<|W.region rfl<|qm rfl rfl rfl ?_
      refine ag1 rfl ?_
      refine agb rfl rfl rfl<|pq ?_
      exact⟨rfl,n+1,β',by omega,by omega,⟨rfl,lk rfl (congrArg Value.bool (abA hk (by first | exact .inr (by simpa using Ic) | exact .inl (by omega)))),rfl,rfl,rfl,rfl,trivial⟩,.eq (by rw[show min (n+1) 13=n+1 by omega])⟩
     ·refine W.skip<|dI<|aA<|W.region rfl<|qm rfl rfl rfl ?_
      refine ag1 rfl ?_
      refine agb rfl rfl rfl<|pq ?_
      exact⟨rfl,n+1,β,by omega,by omega,⟨rfl,lk rfl (congrArg Value.bool (abA hk (by first | exact .inr (by simpa using Ic) | exact .inl (by omega)))),rfl,rfl,rfl,rfl,trivial⟩,.eq (by rw[show min (n+1) 13=n by omega])⟩
   ·obtain rfl:n=14:=by omega
    rw[aeF h4 Dn]
    refine W.exit<|bP<|bP<|gG<|aA<|W.seq<|W.region rfl<|qm rfl rfl rfl<|qm rfl rfl rfl ?_
    refine c0 (fun h' hE hL=>afl _ h' _ _ q (hsl2.ext hE) (by rw[kT];omega)) (fun v A' hv=>?_)
    obtain⟨fi,rfl,hfi,hA⟩:=hv
    refine Ops.sb (F':=[(β,bsO (OD ps q 13))]) (.left .refl hA) ?_
    have hfw:0≤fi↔dD (dO ps 0) 13 q=true:=by
     rw[hfi,zs]
     simp only[List.mem_map,afm]
     constructor
     ·rintro⟨n,⟨_,h⟩,e⟩
      have:n=q:=by omega
      rw[←this];exact h
     ·exact fun h=>⟨q,⟨Dn,h⟩,rfl⟩
    refine KU (IJ rfl rfl rfl) (congrArg Value.bool (show decide (0≤fi)=dD (dO ps 0) 13 q by rw[Bool.eq_iff_iff,decide_eq_true_iff];exact hfw)) rfl wn rfl rfl ?_
    refine agb rfl rfl rfl<|pq<|W.seq<|W.region rfl<|qm rfl rfl rfl<|qm rfl rfl rfl ?_
    refine cp (fun h' hE hL=>aco _ h' (OD ps q 13) β _ _ (hL β _ (.head _))) ?_
    rw[YV h4 Dn]
    refine KU (ae9 rfl rfl rfl) (congrArg Value.bool (show(!(dD (dO ps 0) 13 q==dD (dO ps 0) 13 q))=false by simp)) rfl wn rfl rfl ?_
    refine qm rfl rfl rfl ?_
    refine oq (aN rfl rfl) rfl (ak rfl rfl rfl) rfl rfl ?_
    refine oq (aN rfl rfl) rfl (ak rfl rfl rfl) rfl rfl ?_
    refine KU (ae9 rfl rfl rfl) (congrArg Value.bool (show(!(dD (dO ps 0) 13 q==dD (dO ps 0) 13 q))=false by simp)) rfl (ak rfl rfl rfl) rfl rfl ?_
    refine agW (iH rfl rfl rfl) rfl ?_
    refine pq ?_
    refine W.bZ ?_
    refine W.skip<|dI<|aA<|W.region rfl<|qm rfl rfl rfl ?_
    refine ag1 rfl ?_
    refine agb rfl rfl rfl<|pq ?_
    exact⟨rfl,q+1,Dn,by omega,⟨rfl,rfl,rfl,trivial⟩,.skip rfl .refl⟩
  ·refine W.exit<|bP<|bP<|gG<|aA<|W.seq<|W.region rfl<|qm rfl rfl rfl ?_
   refine agW (dM rfl rfl) rfl ?_
   refine agW (Lr rfl rfl rfl) rfl ?_
   refine qm rfl rfl rfl ?_
   refine Ops.ask (fun agP=>?_) (fun agP=>?_)
   ·refine cp (fun h' hE hL=>VW _ h' hS hmb _ _ (hE.1 _ _ hgz)) ?_
    refine agW (dG rfl rfl rfl) rfl ?_
    refine agb rfl rfl rfl<|pq<|W.ret ?_
    first | exact lvq rfl | (exfalso;omega)
   ·refine Ops.no ?_
    refine agW (iH rfl rfl rfl) rfl ?_
    refine agb rfl rfl rfl<|pq<|W.ret ?_
    first | exact lvq rfl | (exfalso;omega)
end Go.aS

/- SyrupEver's card. Conditions: as the card says; over the given program. -/
namespace Go.Proofs.YtkkdgffaohidnaaGreatDoor
open Go Go.aS
set_option maxRecDepth 100000
set_option maxHeartbeats 4000000
theorem acA:joinedFacts prog aai aaO Rows.syrupEverSpec Rows.syrupEverRow=true:=by
 unfold joinedFacts
 repeat' with_reducible refine Bool.and_eq_true_iff.2 ⟨?_,?_⟩
 all_goals first
  | with_reducible exact aci
  | (with_reducible refine makeT ?_;kernel_rfl)
  | (with_reducible refine aeb ?_;kernel_rfl)
  | (as_aux_lemma=>kernel_rfl)
theorem aa9:prog.funcNamed Rows.syrupEverRow.func=some aai:=by kernel_rfl
theorem adh:prog.mainIs=some (true, "dbc29bbb9727fbebaf7429f7266f9d82b5a02ec0969210b724e1ed2dac66cc8d".toList):=ad9
theorem adk:true=Rows.syrupEverRow.goesBy prog:=by kernel_rfl
theorem acB:true=prog.looks []:=by kernel_rfl
theorem adZ:Rows.SyrupEverSaid:=
 OpenClaim.holds_of_wide_leaving_time aai aaO rfl rfl rfl rfl rfl rfl rfl ⟨rfl,rfl,rfl,rfl,rfl⟩ rfl rfl rfl rfl rfl aa9 aaQ acA
  (of_decide_eq_true (by kernel_rfl)) (by unfold Func.isWrapper;first | (rw[if_pos (by decide+kernel)];kernel_rfl) | (rw[if_neg (by decide+kernel)];exact⟨rfl,rfl⟩))
  (
   fun os started H enc _ F=>ad7 (s:=Rows.syrupEverSpec) os started H enc aaQ (by kernel_rfl) (by kernel_rfl) (by kernel_rfl) (by kernel_rfl) (by kernel_rfl) rfl (fun _=>rfl)
   (OB (enc:=enc) (C:=Tryz.checked) (os:=os) (X:=fun w _=>laidMetH prog J9 w) (laidWorld os) #[.slice none 0 0] 8 rfl (by kernel_rfl) (by kernel_rfl) (by kernel_rfl) (by kernel_rfl) (by kernel_rfl) (laidWorld_met os _))
   (fun main hS hmb h nums lv Eg zg hl hg z0=>adX main hS hmb h nums lv Eg zg hl hg z0) F)

theorem SyrupEver_card:Rows.SyrupEverCardSaid:=
 VZ .later [] [.handle] true (true, "dbc29bbb9727fbebaf7429f7266f9d82b5a02ec0969210b724e1ed2dac66cc8d") true
  adZ (fun _ h=>by cases h) (by kernel_rfl) (fun _ h=>by cases h) syrupEver_row_tie rfl ⟨rfl,rfl⟩ adh rfl
  (
   fun f fn hf hfn=>by
   obtain rfl:f=aai:=(Option.some.inj (aa9.symm.trans hf)).symm
   obtain rfl:fn=aaO:=(Option.some.inj (aaQ.symm.trans hfn)).symm
   exact⟨acB,fun j t ht=>by
    rw[show(aaO).params= #[nS] by kernel_rfl]at ht
    have h3:t=nS:=by
     rcases j with _ | j
     ·simpa using ht.symm
     ·simp at ht
    subst h3
    exact(show prog.wantsStandIn nS=false by kernel_rfl)⟩)
  adk
#print axioms SyrupEver_card
end Go.Proofs.YtkkdgffaohidnaaGreatDoor
