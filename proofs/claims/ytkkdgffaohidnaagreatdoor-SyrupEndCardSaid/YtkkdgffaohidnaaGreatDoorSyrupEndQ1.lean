/- What is reached in so many steps, as the laws find it. Conditions: none; no program in sight. (And 39 texts more.) -/
import Derived.Test.YtkkdgffaohidnaaGreatDoorR10
import Derived.Test.YtkkdgffaohidnaaGreatDoorR13
import Derived.Test.YtkkdgffaohidnaaGreatDoorR11
import Derived.Test.YtkkdgffaohidnaaGreatDoorR12
import Derived.Test.YtkkdgffaohidnaaGreatDoorR14
set_option linter.unusedVariables false
set_option linter.unusedSimpArgs false
set_option linter.unusedSectionVars false

/- What is reached in so many steps, as the laws find it. Conditions: none; no program in sight. -/
namespace Go.aS
set_option linter.unusedVariables false
theorem YU{ps:List Pn}{q o:Nat}{v:List Nat}(hq:q<13)(h:qJ (dO ps 0) q v o):o<13:=by
 rcases List.eq_nil_or_concat v with rfl | ⟨r,p,rfl⟩
 ·have:q=o:=h
  omega
 ·rw[List.concat_eq_append]at h
  obtain⟨m,_,h6⟩:=lW.1 h
  exact F9 _ _ _ h6
end Go.aS

/- Operations that come up in any order and only add to what is owned. Conditions: none; over any program. -/
namespace Go.aS
abbrev Spc:=Nat×Nat×(Value→ah→Prop)
def waits(ops:Array Oper):Nat→Nat→Nat→Bool
 | 0,_,_=>false
 | n+1,k,b=>match ops[k]? with | some o=>o.after.any fun e=>iG e&&(Nat.beq e.on b|| waits ops n e.on b) | none=>false
structure Y4(ops:Array Oper)(listed:Nat)(B:List Nat):Prop where
 cl:Closed ops listed
 low:∀k o,ops[k]? =some o→∀e∈o.after,iG e=true→e.on<k
 or:∀k,k<ops.size→listed.testBit k=false→k∈B∨∀b∈B,waits ops 6 k b=true
 un:∀b∈B,b<ops.size∧listed.testBit b=false
 nd:B.Nodup

theorem Y4.some{ops:Array Oper}{listed:Nat}{B:List Nat}(h:Y4 ops listed B){b:Nat}(hb:b∈B):qx ops listed≠[]:=by
 have key:∀(n k:Nat),k<n→k<ops.size→listed.testBit k=false→∃i,Fq ops listed i=true:=by
  intro n
  induction n with
  | zero=>intro k hk;omega
  | succ n ih=>
   intro k hk hlt hl
   by_cases hr:Fq ops listed k=true
   ·exact⟨k,hr⟩
   ·simp only[Fq,Array.getElem?_eq_getElem hlt,hl,Bool.not_false,Bool.true_and,Array.all_eq_true_iff_forall_mem,Bool.or_eq_true,Bool.not_eq_true']at hr
    have:∃e∈(ops[k]).after,iG e=true∧listed.testBit e.on=false:=by
     refine Classical.byContradiction fun hn=>hr fun e he=>?_
     cases hbe:iG e with
     | false=>exact .inl rfl
     | true=>
      cases ht:listed.testBit e.on with
      | true=>exact .inr rfl
      | false=>exact absurd ⟨e,he,hbe,ht⟩ hn
    obtain⟨e,he,h1,h2⟩:=this
    have:=h.low k _ (Array.getElem?_eq_getElem hlt) e he h1
    exact ih e.on (by omega) (by omega) h2
 obtain⟨i,hi⟩:=key (b+1) b (by omega) (h.un b hb).1 (h.un b hb).2
 intro e
 have:=o8.2 hi
 rw[e]at this
 cases this

theorem Y4.step{ops:Array Oper}{listed j:Nat}{B1 B2:List Nat}(h:Y4 ops listed (B1++j::B2))(hj:Fq ops listed j=true):Y4 ops (listed||| 2 ^ j) (B1++B2):=by
 have hnd:j∉B1++B2:=by
  have:=(List.perm_middle (a:=j) (l₁:=B1) (l₂:=B2)).nodup_iff.1 h.nd
  exact(List.nodup_cons.1 this).1
 refine⟨h.cl.step hj,h.low,fun k hk hl=>?_,fun b hb=>?_,?_⟩
 ·rw[testBit_or,Bool.or_eq_false_iff]at hl
  have hne:j≠k:=by simpa using hl.2
  rcases h.or k hk hl.1 with h' | h'
  ·left
   rcases List.mem_append.1 h' with h' | h'
   ·exact List.mem_append_left _ h'
   ·rcases List.mem_cons.1 h' with h' | h'
    ·exact absurd h'.symm hne
    ·exact List.mem_append_right _ h'
  ·right
   intro b hb
   refine h' b ?_
   rcases List.mem_append.1 hb with hb | hb
   ·exact List.mem_append_left _ hb
   ·exact List.mem_append_right _ (List.mem_cons_of_mem _ hb)
 ·have hb':b∈B1++j::B2:=by
   rcases List.mem_append.1 hb with hb | hb
   ·exact List.mem_append_left _ hb
   ·exact List.mem_append_right _ (List.mem_cons_of_mem _ hb)
  refine⟨(h.un b hb').1,?_⟩
  rw[testBit_or,(h.un b hb').2,Bool.false_or,decide_eq_false_iff_not]
  rintro rfl
  exact hnd hb
 ·have:=(List.perm_middle (a:=j) (l₁:=B1) (l₂:=B2)).nodup_iff.1 h.nd
  exact(List.nodup_cons.1 this).2

def Adds(x:Cx)(ops:Array Oper)(ε:Ev)(s:Spc):Prop:=
 ∃o,ops[s.1]? =some o∧o.dst=some s.2.1∧d_ o.dst x.n=true∧(∀c,o.op≠ .defer c)∧o.guard=none∧∀e,Cons ε e→∀F,Dx x o e F fun v F'=>∃A Lp,Lp.Perm F'∧s.2.2 v A∧Lp=A++F

theorem Cons.back{ε:Ev}{d:Nat}{v:Value}{e:Operand→Value}(h:Cons (upd ε (some d) v) e)(hd:ε d=none):Cons ε e:=fun y u hy=>h y u (by
 cases y with
 | tmp t=>
  simp only[UK,upd]at hy⊢
  cases hb:Nat.beq t d with
  | true=>rw[Nat.eq_of_beq_eq_true hb,hd]at hy;cases hy
  | false=>exact hy
 | _=>exact hy)

section rules
variable{x:Cx}{Q:Post}{ρ:Env}{ds:List Deferred}{F:ah}{ops:Array Oper}{L:ah}{fuel listed:Nat}
theorem Adds.of{i d:Nat}{P:Value→ah→Prop}{op:Op}{ty:TypeId}{pos:String}{bK:Array Edge}(ho:cO ops.toList i=some ⟨some d,op,ty,pos,bK,none⟩)(hd:Nat.blt d x.n=true)(hn:cu op=true)(H:∀F,Ef x ρ ⟨some d,op,ty,pos,bK,none⟩ F fun v F'=>∃A,P v A∧F'=A++F):Adds x ops (look ρ) (i,d,P):=
 ⟨_,aU ho,rfl,hd,gI hn,rfl,fun e he F=>(H F e fun y v hy=>he y v (by rw[DC];exact hy)).mono fun v F' ⟨Lp,p,A,hv,e⟩=>⟨A,Lp,p,hv,e⟩⟩
theorem Adds.call{i d f:Nat}{P:Value→ah→Prop}{args:List Operand}{ts:Array TypeId}{vs:List Value}{ty:TypeId}{pos:String}{bK:Array Edge}(H:∀h',Ext x.h h'→dV x.P x.main f vs.toArray h' [] P)(ho:cO ops.toList i=some ⟨some d,.call ⟨.value (.func f),args.toArray,ts⟩,ty,pos,bK,none⟩:=by rfl)[FB x.P f](hv:evs ρ args=some vs:=by rfl)(hd:Nat.blt d x.n=true:=by rfl):Adds x ops (look ρ) (i,d,P):=
 .of ho hd rfl fun F=>lQ rfl hv (fun h' hE _=>H h' hE) fun v A' hv=>⟨A',hv,rfl⟩
end rules
end Go.aS
namespace Go.aS
section
variable{α:Type}{row:α→List Value}{w:Nat}[rw':Rw row w]
section
variable{x:Cx}{ρ:Env}{F:ah}{o:Oper}{R:Value→ah→Prop}
end
end
section
variable{x:Cx}{S:ah→Prop}{ρ:Env}{o:Oper}
end
end Go.aS
namespace Go.aS
section
variable{x:Cx}{Q:Post}{ρ:Env}{ds:List Deferred}{ops:Array Oper}{G:ah}{y₁ y₂ y₃ y₄ agp agq:Nat×Obj}{id n:Nat}
end
end Go.aS
namespace Go.aS
end Go.aS

/- Slices of slices; makeSlice. Conditions: none; over any program. -/
namespace Go.aS
structure Sv where
  a:Option Addr
  n:Nat
  cap:Nat
abbrev Sv.val(s:Sv):Value:=.slice s.a s.n s.cap
section
variable{α:Type}{row:α→List Value}{w:Nat}[rw':Rw row w]{E:TypeId}
inductive UG(E:TypeId)(row:α→List Value)[Rw row w]:List Sv→List (List α)→ah→Prop
  | nil:UG E row [] [] []
  | cons {s:Sv} {l:List α} {A B:ah} {vs:List Sv} {ls:List (List α)}:Os E row s.val l A→UG E row vs ls B→UG E row (s::vs) (l::ls) (A++B)
theorem UG.len{vs:List Sv}{ls:List (List α)}{A:ah}(h:UG E row vs ls A):vs.length=ls.length:=by
  induction h with
  | nil=>rfl
  | cons _ _ ih=>simp[ih]
theorem UG.shut{vs:List Sv}{ls:List (List α)}{A:ah}(h:UG E row vs ls A):Shut A:=by
  induction h with
  | nil=>exact .nil
  | cons h _ ih=>exact h.shut.app ih
theorem UG.sl{vs:List Sv}{ls:List (List α)}{A:ah}{h':Hp}(h:UG E row vs ls A)(hL:∀b o,(b,o)∈A→h' b=some o):∀{k:Nat} {s:Sv} {l:List α},vs[k]? =some s→ls[k]? =some l→Sl h' row s.val l:=by
  induction h with
  | nil=>intro k s l hs;simp at hs
  | cons h1 _ ih=>
    intro k s l hs hl
    rcases k with _ | k
    · simp at hs hl;subst hs hl
      exact h1.sl fun b o hb=>hL b o (List.mem_append_left _ hb)
    · simp at hs hl
      exact ih (fun b o hb=>hL b o (List.mem_append_right _ hb)) hs hl
end
/-! makeSlice -/
section
variable{x:Cx}{ρ:Env}{F:ah}{o:Oper}{R:Value→ah→Prop}
theorem G8{t E by' n:Nat}{z:Value}{y y':Operand}(ho:o.op= .makeSlice t y y')[TD x.P t (.slice E)][TI x.P E 1 by' z #[z]](hy:ev ρ y=some (.int .i64 (n:Int)))(hy':ev ρ y'=some (.int .i64 (n:Int)))(hb:by'*n≤2 ^ 48∧n≤1000000)
    (K:∀β,R (.slice (some ⟨β,0,none⟩) n n) ((β,.cells (List.replicate n z).toArray E (0,0))::F)):Ef x ρ o F R:=
  Ef.xW fun e he h' hE=>by
    obtain⟨j,hj,hj1,hj2,hj3,hj4⟩:=TI.out (inferInstance:TI x.P E 1 by' z #[z])
    have hw:IntKind.i64.wrap (n:Int)=n:=nC (by omega) (by omega)
    have c1:¬((n:Int)<0):=by omega
    have c2:¬((by':Int)*(n:Int)>2 ^ 48):=by
                                                         have:((by'*n:Nat):Int)≤2 ^ 48:=by exact_mod_cast hb.1
                                                         rw[Int.natCast_mul]at this;omega
    have c3:¬((n:Int)>n):=by omega
    simp only[execOp,ho,he y _ hy,he y' _ hy',Instr.makeSlice,asInt,asIntOf,bind_eq,au,bind_assoc,bind_pure,aC,dJ hj,hj2,hw]
    simp only[c1,c2,c3,decide_false,Bool.or_false,Bool.false_eq_true,if_false]
    have room:∀{β:Type} {f:Unit→Sem β} {Q':β→ah→Prop},tr x.P h' (f ()) F Q'→tr x.P h' ((askRoom (((n:Int).toNat)*by')).bind f) F Q':=by
      intro β f Q' H
      unfold askRoom
      split
      · exact⟨rfl,H⟩
      · exact H
    refine bJ (room ?_)
    simp only[dH,Int.toNat_natCast,Nat.mul_one]
    have harr:(Array.range n).map (fun i=>(#[z]:Array Value)[i % (#[z]:Array Value).size]!)=(List.replicate n z).toArray:=by
      apply Array.ext
      · simp
      · intro i h1 h2
        simp[Nat.mod_one]
    by_cases h0:n=0
    · subst h0
      have e0:(Array.range 0).map (fun x=>(#[]:Array Value)[x % (#[]:Array Value).size]!)=(List.replicate 0 z).toArray:=by simp
      simp only[if_true,newRow,bind_eq,au,bind_assoc,bind_pure,e0]
      exact wI fun r h1 h2=>⟨_,.inl rfl,K r⟩
    · simp only[if_neg h0,fG,hj4,newRow,bind_eq,au,bind_assoc,bind_pure,harr]
      exact wI fun r h1 h2=>⟨_,.inl rfl,K r⟩
end
end Go.aS

/- Sets of qualities, as the laws keep them. Conditions: none; over the given program. -/
namespace Go.aS
set_option maxRecDepth 100000
set_option maxHeartbeats 4000000
abbrev V9(β:Nat):Value:=.slice (some ⟨β,0,none⟩) 13 13
abbrev bsO(f:Nat→Bool):Obj:=.cells (bA f) RS (0,0)
theorem QI:(List.replicate 13 (Value.bool false)).toArray=bA fun _=>false:=rfl
end Go.aS

/- SyrupLongest. Conditions: none; over the given program. -/
namespace Go.aS
set_option maxRecDepth 100000
set_option maxHeartbeats 4000000
theorem UH{ps:List Pn}{q:Int}(h:nV ps=0)(h0:0≤q)(h1:q≤12):kU ps [q]=0:=by
 have:¬outs q 0 12:=by unfold outs;omega
 simp[kU,h,this]
end Go.aS

/- What goes round for ever comes to a ring. Conditions: none; no program in sight. -/
namespace Go.aS
set_option linter.unusedVariables false
theorem acs{g:yV}(hn:∀k p o,(p,o)∈g k→o<13):∀{v:List Nat} {q e:Nat},q<13→qJ g q v e→e<13
 | [],q,e,hq,h=>by have:q=e:=h;omega
 | p::r,q,e,hq,⟨o,h1,h2⟩=>acs hn (hn _ _ _ h1) h2
end Go.aS

/- All ways of so many steps; the first of them. Conditions: none; no program in sight. -/
namespace Go.aS
set_option linter.unusedVariables false
def af7(m:Nat):Nat→List (List Nat)
 | 0=>[[]]
 | k+1=>(af7 m k).flatMap fun l=>(List.range m).map fun y=>l++[y]
theorem agC{ps:List Pn}{q:Int}{i:Nat}(h:P9 ps q i=true):i<ps.length:=by
 rcases Nat.lt_or_ge i ps.length with h' | h'
 ·exact h'
 ·unfold P9 at h;rw[List.getElem?_eq_none h']at h;cases h
theorem agZ{ps:List Pn}(h4:ps.length≤4){q p o:Nat}:(p,o)∈dO ps 0 q↔P9 ps q p=true∧o=gy ps p q:=by
 rw[Um,Ak]
 constructor
 ·rintro⟨⟨-,h,-⟩,e⟩;exact⟨h,e⟩
 ·rintro⟨h,e⟩;exact⟨⟨by have:=agC h;omega,h,by simp⟩,e⟩
end Go.aS

/- All lists of so many numbers, as a program makes them; all ascending ones. Conditions: none; no program in sight. -/
namespace Go.aS
set_option linter.unusedVariables false
def af9(g:List Int)(y:Nat):List (List Int):=(List.range y).map fun(y:Nat)=>g++[(y:Int)]
def afb(m:Nat)(H:List (List Int))(x:Nat):List (List Int):=(H.take x).flatMap fun g=>af9 g m
def aff(m:Nat):Nat→List (List Int)
 | 0=>[[]]
 | k+1=>afb m (aff m k) (aff m k).length
theorem afL{m:Nat}:∀{k:Nat},aff m k=(af7 m k).map zs
 | 0=>rfl
 | k+1=>by
  rw[aff,afb,List.take_length,afL,af7,List.flatMap_map,List.map_flatMap]
  refine congrArg (fun f=>List.flatMap f _) (funext fun l=>?_)
  rw[af9,List.map_map]
  exact List.map_congr_left fun y _=>by simp[zs]
end Go.aS

/- All lists of so many numbers. Conditions: none; over the given program. -/
namespace Go.aS
set_option maxRecDepth 100000
set_option maxHeartbeats 4000000
end Go.aS

/- Ways, as the laws make them. Conditions: none; over the given program. -/
namespace Go.aS
set_option maxRecDepth 100000
set_option maxHeartbeats 4000000
theorem agK{ps:List Pn}{q:Int}{p:Nat}{x:Pn}(h:ps[p]? =some x):P9 ps q p=(decide (x.lo≤q)&&decide (q≤x.hi)):=by
 unfold P9;rw[h];rfl
theorem UG.filter{α:Type}{row:α→List Value}{k:Nat}[Rw row k]{E:TypeId}{vs:List Sv}{ls:List (List α)}{A:ah}(h:UG E row vs ls A)(P:List α→Bool):∃B,UG E row (((vs.zip ls).filter fun x=>P x.2).map (·.1)) (ls.filter P) B∧Sb B A:=by
 induction h with
 | nil=>exact⟨[],.nil,.refl⟩
 | @cons s l A B vs ls h1 h2 ih=>
  obtain⟨C,h3,h4⟩:=ih
  rw[List.zip_cons_cons,List.filter_cons,List.filter_cons]
  cases hP:P l
  ·exact⟨C,by simpa[hP]using h3,h4.left h1.shut⟩
  ·exact⟨A++C,by simpa[hP]using UG.cons h1 h3,Sb.app .refl h4⟩
end Go.aS

/- Comparing truth values. Conditions: none; over any program. -/
namespace Go.aS
section
variable{x:Cx}{ρ:Env}{S:ah→Prop}{o:Oper}{v:Value}
end
end Go.aS

/- Shut blocks are put by. Conditions: none; over any program. -/
namespace Go.aS
theorem W.cut{x:Cx}{c c2:Code}{Q:Post}{ρ:Env}{ds:List Deferred}{F:ah}(L:Env)(G:ah)(H:W x c (fun e ρ' ds' F'=>e= .normal∧ds'=ds∧Sub L ρ'∧Sb G F') ρ ds F)(K:W x c2 Q L ds G):W x c (thn (fun ρ' ds' F'=>W x c2 Q ρ' ds' F') Q) ρ ds F:=
 W.mono H fun e ρ' ds' F' h=>by
  obtain⟨he,hd,hs,hb⟩:=h
  subst he hd
  exact aA (W.env hs (W.sb hb K))
theorem W.aiB{σ:Type}{x:Cx}{c c2:Code}{Q:Post}{ρ:Env}{ds:List Deferred}{F:ah}(ok:σ→Prop)(L:σ→Env)(G:σ→ah)(H:W x c (fun e ρ' ds' F'=>e= .normal∧ds'=ds∧∃s,ok s∧Sub (L s) ρ'∧Sb (G s) F') ρ ds F)(K:∀s,ok s→W x c2 Q (L s) ds (G s)):W x c (thn (fun ρ' ds' F'=>W x c2 Q ρ' ds' F') Q) ρ ds F:=
 W.mono H fun e ρ' ds' F' h=>by
  obtain⟨he,hd,s,ho,hs,hb⟩:=h
  subst he hd
  exact aA (W.env hs (W.sb hb (K s ho)))
end Go.aS

/- SyrupRing. Conditions: none; over the given program. -/
namespace Go.aS
set_option maxRecDepth 100000
set_option maxHeartbeats 4000000
end Go.aS

/- From where syrups go round for ever: the list. Conditions: none; over the given program. -/
namespace Go.aS
set_option maxRecDepth 100000
set_option maxHeartbeats 4000000
def qsL(f:Nat→Bool):List Nat:=(List.range 13).filter f
theorem afn{f:Nat→Bool}:(qsL f).length≤13:=Nat.le_trans (List.length_filter_le ..) (by simp)
theorem ae1(main:Side)(h:Hp)(f:Nat→Bool):dV prog main aaV #[.agg (bA f)] h [] (fun v A=>∃S,Os dL fH v (zs (qsL f)) S∧Sb S A):=by
 refine dV.aG aa2 rfl (by show 1≤18;decide) [(0,.agg (bA f))] ⟨rfl,trivial⟩ ?_
 have hsz:(bA f).size=13:=nX
 have hon:ones (bA f).toList=true:=Un
 refine W.seq<|W.region rfl ?_
 refine Ops.box (cs:=bA f) (fun β1=>?_)
 refine agb rfl rfl rfl<|pq<|W.seq<|W.region rfl<|agb rfl rfl rfl<|pq<|W.seq<|W.seq ?_
 refine W.region rfl ?_
 refine ag2 rfl ?_
 refine qm rfl rfl rfl<|pq<|W.block ?_
 refine W.Js (fun(k:Nat) (v:Value) (S:ah)=>k≤13∧Os dL fH v (zs ((List.range k).filter f)) S) (fun k v S=>[(7,I k),(6,.agg (bA f)),(3,v),(1,.pointer (some ⟨β1,0,none⟩))]) (fun k v S=>S++[(β1,.cells (bA f) aP (0,0))]) (fun k _ _=>13-k) 0 (.slice none 0 0) [] ⟨Nat.zero_le _,.nil .nil⟩ ⟨rfl,rfl,rfl,rfl,trivial⟩ .refl ?_
 rintro k v S ⟨hk,hS⟩
 refine W.seq<|W.region rfl ?_
 refine agW (fO rfl rfl rfl) rfl ?_
 refine pq<|W.seq ?_
 refine W.bC rfl (fun c8=>?_) (fun c8=>?_)
 ·have Vq:k<13:=by omega
  have hlen:(zs ((List.range k).filter f)).length≤13:=by rw[kT];exact Nat.le_trans (List.length_filter_le ..) (by simp;omega)
  refine W.skip<|aA<|W.seq<|W.block<|W.seq<|W.region rfl<|qm rfl rfl rfl ?_
  refine agW (Ti (n:=k) (v:=.bool (f k)) rfl rfl rfl (by omega) (by omega) (by rw[Int.toNat_natCast,Nat.mul_one];exact L9 Vq)) rfl ?_
  refine agb rfl rfl rfl<|agb rfl rfl rfl<|pq<|W.seq<|W.region rfl<|qm rfl rfl rfl<|pq ?_
  refine W.cond rfl (fun c11=>?_) (fun c11=>?_)
  ·refine W.region rfl<|qm rfl rfl rfl<|qm rfl rfl rfl ?_
   refine Ops.NK (cs:= #[I k]) (fun aht=>?_) rfl
   refine oe rfl wn rfl rfl (iW (row:=fH) (l':=[(k:Int)]) rfl rfl rfl hS (.tail .head) (fun h2 _ hl=>Sl.mk (hl aht _ (.head _)) rfl (Part.all [I k])) (by simp;omega) (by decide) rfl (fun v' S' hS'=>?_))
   refine agb rfl rfl rfl<|Ops.nil<|dI<|aA<|W.region rfl ?_
   refine ag1 rfl ?_
   refine qm rfl rfl rfl<|pq ?_
   exact⟨rfl,k+1,v',S',⟨by omega,by rw[List.range_succ,List.filter_append,X3];simpa[zs,c11]using hS'⟩,by omega,⟨rfl,rfl,rfl,rfl,trivial⟩,.skip rfl .refl⟩
  ·refine W.skip<|dI<|aA<|W.region rfl ?_
   refine ag1 rfl ?_
   refine qm rfl rfl rfl<|pq ?_
   exact⟨rfl,k+1,v,S,⟨by omega,by rw[List.range_succ,List.filter_append,X3];simpa[zs,c11]using hS⟩,by omega,⟨rfl,rfl,rfl,rfl,trivial⟩,.refl⟩
 ·refine W.exit<|bP<|bP<|gG<|aA<|W.seq<|W.region rfl<|qm rfl rfl rfl<|agb rfl rfl rfl<|Ops.nil ?_
  refine aA<|W.ret ?_
  obtain rfl:k=13:=by omega
  exact mg (vs:=[v]) ⟨S,hS,.right .refl (.cons rfl .nil)⟩
end Go.aS

/- The shortest way to treacle; what treacle comes of a syrup. Conditions: none; over the given program. -/
namespace Go.aS
set_option maxRecDepth 100000
set_option maxHeartbeats 4000000
def enB(ps:List Pn)(l:List Wy)(e:Nat):Bool:=l.any fun w=>decide (w.2=e)&&dY ps w.2
def EnF(ps:List Pn)(q:Int):List Nat×Int:=if kU ps [q]≠0 then([],kU ps [q])else(qsL (enB ps (Ah (dO ps 0) q.toNat)),0)
theorem aio{ps:List Pn}{l:List Wy}{k:Nat}{w:Wy}(h:l[k]? =some w):(fun i=>if i=w.2 then dY ps w.2 else enB ps (l.take k) i)=enB ps (l.take (k+1)):=by
 funext i
 rw[List.take_add_one,h]
 simp only[enB,Option.toList_some,List.any_append,List.any_cons,List.any_nil,Bool.or_false]
 by_cases hi:i=w.2
 ·subst hi
  rw[if_pos rfl]
  simp only[decide_true,Bool.true_and]
  cases ht:dY ps (w.2:Int)with
  | true=>rw[Bool.or_true]
  | false=>
   rw[Bool.or_false,eq_comm]
   refine List.any_eq_false.2 fun u hu=>?_
   simp only[Bool.and_eq_true,decide_eq_true_eq,not_and]
   intro hu2;rw[hu2,ht];decide
 ·rw[if_neg hi,decide_eq_false (fun h=>hi h.symm),Bool.false_and,Bool.or_false]
theorem aiH(main:Side)(h:Hp)(ps:List Pn)(vp:Value)(q:Int)(hf:Sl h Pn.row vp ps):dV prog main ahw #[vp,I q] h [] (fun v A=>∃w S,v= .tuple #[w,I (EnF ps q).2]∧Os dL fH w (zs (EnF ps q).1) S∧Sb S A):=by
 obtain⟨a,cap,rfl⟩:=hf.dA
 refine dV.aG ahW rfl (by show 2≤33;decide) [(0,.slice a ps.length cap),(1,I q)] ⟨rfl,rfl,trivial⟩ ?_
 refine W.seq<|W.region rfl<|agb rfl rfl rfl<|agb rfl rfl rfl<|pq<|W.seq<|W.region rfl<|qm rfl rfl rfl<|qm rfl rfl rfl ?_
 refine Ops.NK (cs:= #[I q]) (fun X5=>?_) rfl
 refine cp (fun h' hE hL=>Am _ h' ps _ [q] _ (hf.ext hE) (Sl.mk (hL X5 _ (.head _)) rfl (Part.all [I q])) (by simp)) ?_
 refine qm rfl rfl rfl<|oq (bD rfl rfl rfl) rfl wn rfl rfl<|oq (bD rfl rfl rfl) rfl wn rfl rfl ?_
 have hcs:∃cs:Array Value,(if kU ps [q]=0 then xJ (.slice a ps.length cap) 0 else LZ)= .agg cs∧cs.size=2∧ones cs.toList=true:=by
  split <;>exact⟨_,rfl,rfl,rfl⟩
 obtain⟨cs,hcs,hcs2,hcs1⟩:=hcs
 rw[hcs]
 refine Ops.new (fun yC=>?_)
 refine Ops.jP (n:=2) (vs:=cs) ?_ (hy:=by rfl) (hn:=hcs2) (h1:=hcs1)
 refine agb rfl rfl rfl<|pq<|W.seq<|W.seq<|W.region rfl<|qm rfl rfl rfl ?_
 refine agW (nG rfl rfl rfl) rfl ?_
 refine pq ?_
 refine W.bC rfl (fun c18=>?_) (fun c18=>?_)
 ·have e:EnF ps q=([],kU ps [q]):=by rw[EnF,if_pos (by simpa using c18)]
  refine W.seq<|W.region rfl<|qm rfl rfl rfl<|agb rfl rfl rfl<|agb rfl rfl rfl<|pq<|W.ret<|aY ?_
  refine mg (vs:=[_,_]) ?_
  rw[e]
  exact⟨_,[],rfl,.nil .nil,.nil (by repeat(first | exact Shut.nil | refine Shut.cons rfl ?_))⟩
 ·have h0:kU ps [q]=0:=by simpa using c18
  obtain⟨hok,hq0,hq12⟩:=Sj h0
  rw[if_pos h0]at hcs
  cases hcs
  obtain⟨q,rfl⟩:∃n:Nat,q=n:=⟨q.toNat,by omega⟩
  have e:EnF ps q=(qsL (enB ps (Ah (dO ps 0) q)),0):=by rw[EnF,if_neg (by simpa using h0),Int.toNat_natCast]
  refine W.skip<|aA<|W.seq<|W.region rfl ?_
  refine Ops.new (fun yD=>?_)
  refine pq<|W.seq<|W.seq<|W.region rfl ?_
  refine ag2 rfl ?_
  refine qm rfl rfl rfl ?_
  refine c0 (fun h' hE hL=>Yt _ h' _ 0 q rfl) (fun v A' hv=>?_)
  obtain⟨b1,b2,rfl,rfl⟩:=hv
  refine pq<|W.block ?_
  refine W.abW (Val:=adG) (xs:=Ah (dO ps 0) q) rfl rfl rfl
   (fun k A=>A=[(yD,.cells (bA (enB ps ((Ah (dO ps 0) q).take k))) aP (0,0)),(yC,.cells #[.slice a ps.length cap,U8 0] bG (0,0)),(X5,.cells #[I q] dL (0,0))])
   (fun k v e A=>False)
   (.tail (.tail .all)) (eqc (by rfl)) (fun h' hE hL=>Qm _ h' ps _ 0 q b1 b2 _ _ _ _ (hf.ext hE) hok (by decide) (by omega) (hL b1 _ (.head _)) (hL b2 _ (.tail _ (.head _)))) ?_ ?_
  ·rintro k p v S A1 hp ⟨vw,rfl,hv1,hvR⟩ rfl l h1 hE1 hL1 hS1
   obtain⟨av,cv,rfl⟩:=(hvR.2 _ hS1).dA
   have hlen:(zs p.1).length=p.1.length:=kT _
   have akj:p.2<13:=by
    obtain⟨met,H⟩:=aee afX (q:=q) (g:=dO ps 0) F9
    exact YU (by omega) (H.path p (by simpa using List.mem_of_getElem? hp))
   have hsz:0+p.2*1<(bA (enB ps ((Ah (dO ps 0) q).take k))).size:=by rw[nX];omega
   refine W.region rfl ?_
   refine Ops.new (fun Uw=>?_)
   refine Ops.jP (vs:= #[.slice av (zs p.1).length cv,I p.2]) ?_
   refine Ops.nil ?_
   refine⟨rfl,rfl,fun h0 hE0 hL0=>?_⟩
   intro hS0
   refine W.block ?_
   refine W.rE (n:=8) rfl ?_
   refine xq 0 (ay rfl rfl) rfl ?_
   refine xq 1 (iQ rfl rfl) rfl ?_
   first | refine xq 2 (Bf rfl rfl) rfl ?_ | refine xq 2 (zi rfl rfl) rfl ?_
   refine xq 3 (ay rfl rfl) rfl ?_
   refine xq 4 (iQ rfl rfl) rfl ?_
   refine Va (i:=5) (fun h' hE hL=>Si _ h' ps _ 0 p.2 (hf.ext (hE0.trans hE)) hok.len) ?_
   first | refine xq 6 (UN rfl rfl rfl) rfl ?_ | refine xq 6 (Qg rfl rfl rfl) rfl ?_
   refine ae (i:=7) rfl an rfl rfl (eS rfl rfl rfl ?_)
   refine⟨.inl (by kernel_rfl),?_⟩
   refine az ?_
   refine dI ?_
   refine⟨rfl,.inl ⟨rfl,_,rfl,.skip rfl (.eq ?_)⟩⟩
   refine eqc ?_
   rw[show 0+p.2*1=p.2 by omega,Og akj,aio hp]
  ·rintro e2 A2 h9 d
   have h9':e2= .normal∧A2=[(yD,.cells (bA (enB ps ((Ah (dO ps 0) q)))) aP (0,0)),(yC,.cells #[.slice a ps.length cap,U8 0] bG (0,0)),(X5,.cells #[I q] dL (0,0))]:=by
    rcases h9 with⟨h1,h2⟩ | ⟨k,p,v,S,B,hp,hv,hF,-⟩
    ·rw[List.take_length]at h2;exact⟨h1,h2⟩
    ·exact hF.elim
   obtain⟨rfl,rfl⟩:=h9'
   have hs1:(bA (enB ps (Ah (dO ps 0) q))).size=13:=nX
   refine dI<|aA<|W.seq<|W.region rfl ?_
   refine ag2 rfl ?_
   refine c0 (fun h' hE hL=>ae1 _ h' _) (fun v A' hv=>?_)
   obtain⟨S,hS,hsb⟩:=hv
   refine agb rfl rfl rfl<|agb rfl rfl rfl<|pq<|W.ret ?_
   refine lvm (mg (vs:=[_,_]) ?_)
   rw[e]
   exact⟨_,S,rfl,hS,.right hsb (by repeat(first | exact Shut.nil | refine Shut.cons rfl ?_))⟩
end Go.aS

/- Treacle, as the document has it. Conditions: none; over the given program. -/
namespace Go.aS
set_option maxRecDepth 100000
set_option maxHeartbeats 4000000
theorem aii(main:Side)(h:Hp)(n lo hi:Int):Pu prog main ahB #[I n,I lo,I hi] h (.bool (decide (lo≤n)&&decide (n≤hi))):=by
 refine dV.aG ah1 rfl (by show 3≤15;decide) [(0,I n),(1,I lo),(2,I hi)] ⟨rfl,rfl,rfl,trivial⟩ ?_
 refine W.seq<|W.region rfl<|agb rfl rfl rfl<|pq<|W.seq<|W.region rfl<|qm rfl rfl rfl<|qm rfl rfl rfl ?_
 refine agW (IJ rfl rfl rfl) rfl ?_
 refine qm rfl rfl rfl ?_
 refine Ops.ask (fun ae5=>?_) (fun ae5=>?_)
 ·refine oq (aN rfl rfl) rfl (ak rfl rfl rfl) rfl rfl ?_
  refine oq (aN rfl rfl) rfl (ak rfl rfl rfl) rfl rfl ?_
  refine oq (Lr rfl rfl rfl) rfl (ak rfl rfl rfl) rfl rfl ?_
  refine agW (dG rfl rfl rfl) rfl ?_
  refine agb rfl rfl rfl<|pq<|W.ret ?_
  refine uZ ?_
  exact congrArg Value.bool (by simp[*])
 ·refine Ops.no ?_
  refine Ops.no ?_
  refine Ops.no ?_
  refine agW (iH rfl rfl rfl) rfl ?_
  refine agb rfl rfl rfl<|pq<|W.ret ?_
  refine uZ ?_
  exact congrArg Value.bool (by simp[*])
theorem aik(main:Side)(h:Hp)(p:Pn)(q:Int):Pu prog main ahz #[p.val,I q] h (.bool (p.takes q)):=by
 refine dV.aG ah0 rfl (by show 2≤11;decide) [(0,p.val),(1,I q)] ⟨rfl,rfl,trivial⟩ ?_
 refine W.seq<|W.region rfl ?_
 refine Ops.box (cs:= #[I p.lo,I p.hi,I p.sh]) (fun yR=>?_)
 refine agb rfl rfl rfl<|pq<|W.seq<|W.region rfl<|qm rfl rfl rfl ?_
 refine agY rfl ?_
 refine agX rfl ?_
 refine agY rfl ?_
 refine agX rfl ?_
 refine cp (fun h' hE hL=>aii _ h' q p.lo p.hi) ?_
 refine agb rfl rfl rfl<|pq<|W.ret ?_
 exact uZ rfl
theorem ah6(main:Side)(h:Hp)(ps:List Pn)(vp:Value)(q:Int)(hf:Sl h Pn.row vp ps)(hn:ps.length≤1000):Pu prog main ahr #[vp,I q] h (.bool (dY ps q)):=by
 obtain⟨a,cap,rfl⟩:=hf.dA
 refine dV.aG ahS rfl (by show 2≤18;decide) [(0,.slice a ps.length cap),(1,I q)] ⟨rfl,rfl,trivial⟩ ?_
 refine W.seq<|W.region rfl<|agb rfl rfl rfl<|pq<|W.seq<|W.seq<|W.region rfl<|agb rfl rfl rfl<|Ops.nil ?_
 refine aA<|W.block ?_
 refine W.loop (σ:=Nat) (fun i=>i≤ps.length∧dY ps q=dY (ps.drop i) q) (fun i=>[(5,I i),(0,.slice a ps.length cap),(1,I q)]) (fun _=>[]) (fun i=>ps.length-i) 0 ⟨Nat.zero_le _,rfl⟩ ⟨rfl,rfl,rfl,trivial⟩ .refl ?_
 rintro i ⟨hi,ht⟩
 refine W.seq<|W.seq<|W.region rfl<|qm rfl rfl rfl<|qm rfl rfl rfl ?_
 refine agW (dM rfl rfl) rfl ?_
 refine agW (fO rfl rfl rfl) rfl ?_
 refine pq ?_
 refine W.bC rfl (fun c9=>?_) (fun c9=>?_)
 ·have hil:i<ps.length:=by omega
  obtain⟨p,hp,hdr⟩:=has hil
  rw[hdr,show dY (p::ps.drop (i+1)) q=(!p.takes q&&dY (ps.drop (i+1)) q)from rfl]at ht
  obtain⟨b,off,c,E,fz,hv,hb,hx,hy,hz⟩:=hf.at hp
  cases hv
  have hx':c.extract (off+i*3) (off+i*3+3)= #[I p.lo,I p.hi,I p.sh]:=hx
  clear hx
  refine W.skip<|aA<|W.seq<|W.block<|W.seq<|W.region rfl<|qm rfl rfl rfl<|qm rfl rfl rfl ?_
  refine ag3 rfl ?_
  refine ag2 rfl ?_
  refine qm rfl rfl rfl ?_
  refine cp (fun h' hE hL=>aik _ h' p q) ?_
  refine pq ?_
  refine W.cond rfl (fun c17=>?_) (fun c17=>?_)
  ·refine W.seq<|W.region rfl<|agb rfl rfl rfl<|pq<|W.ret<|cZ<|aY<|aY<|cZ ?_
   refine aY ?_
   refine uZ ?_
   rw[ht,c17];rfl
  ·refine W.skip<|dI<|aA<|W.region rfl<|qm rfl rfl rfl ?_
   refine ag1 rfl ?_
   refine agb rfl rfl rfl<|pq ?_
   refine⟨rfl,i+1,⟨hil,?_⟩,by omega,⟨rfl,rfl,rfl,trivial⟩,.refl⟩
   rw[ht,show p.takes q=false by simpa using c17];rfl
 ·refine W.exit<|bP<|bP<|gG<|aA<|W.seq<|W.region rfl<|agb rfl rfl rfl<|pq ?_
  refine W.ret ?_
  obtain rfl:i=ps.length:=by omega
  refine uZ ?_
  rw[ht,List.drop_length];rfl
end Go.aS

/- SyrupShortest. Conditions: none; over the given program. -/
namespace Go.aS
set_option maxRecDepth 100000
set_option maxHeartbeats 4000000
end Go.aS

/- Pans that are forced. Conditions: none; over the given program. -/
namespace Go.aS
set_option maxRecDepth 100000
set_option maxHeartbeats 4000000
end Go.aS

/- Pans that are shut; where one comes without them. Conditions: none; no program in sight. -/
namespace Go.aS
set_option linter.unusedVariables false
end Go.aS

/- Pans shut, as the document has it. Conditions: none; over the given program. -/
namespace Go.aS
set_option maxRecDepth 100000
set_option maxHeartbeats 4000000
end Go.aS

/- SyrupForced. Conditions: none; over the given program. -/
namespace Go.aS
set_option maxRecDepth 100000
set_option maxHeartbeats 4000000
end Go.aS

/- All ascending lists of so many numbers, as a program makes them. Conditions: none; no program in sight. -/
namespace Go.aS
set_option linter.unusedVariables false
set_option maxRecDepth 100000
theorem ajI{n k:Nat}(h:k≤n):∃r,List.range (n+1)=List.range k++k::r:=by
 refine⟨(List.range (n-k)).map (k+1+ ·),?_⟩
 have:n+1=k+((n-k)+1):=by omega
 rw[this,List.range_add,List.range_succ_eq_map,List.map_cons,List.map_map]
 simp only[Nat.add_zero]
 congr 2
 refine List.map_congr_left fun x _=>?_
 simp only[Function.comp];omega
end Go.aS

/- All ascending lists of so many numbers. Conditions: none; over the given program. -/
namespace Go.aS
set_option maxRecDepth 100000
set_option maxHeartbeats 4000000
theorem UG.os{α:Type}{row:α→List Value}{w:Nat}[Rw row w]{E:TypeId}{vs:List Sv}{ls:List (List α)}{A:ah}(h:UG E row vs ls A):∀{k:Nat} {s:Sv} {l:List α},vs[k]? =some s→ls[k]? =some l→∃B,Os E row s.val l B∧∀p∈B,p∈A:=by
 induction h with
 | nil=>intro k s l hs;simp at hs
 | cons h1 _ ih=>
  intro k s l hs hl
  rcases k with _ | k
  ·simp at hs hl;subst hs hl
   exact⟨_,h1,fun p hp=>List.mem_append_left _ hp⟩
  ·simp at hs hl
   obtain⟨B,h2,h3⟩:=ih hs hl
   exact⟨B,h2,fun p hp=>List.mem_append_right _ (h3 p hp)⟩
end Go.aS

/- SyrupClosed. Conditions: none; over the given program. -/
namespace Go.aS
set_option maxRecDepth 100000
set_option maxHeartbeats 4000000
end Go.aS

/- SyrupMore. Conditions: none; over the given program. -/
namespace Go.aS
set_option maxRecDepth 100000
set_option maxHeartbeats 4000000
end Go.aS

/- Pans that are checked, and which of them take a syrup, as the document has it and as the program has it. Conditions: none; over the given program. -/
namespace Go.aS
set_option maxRecDepth 100000
set_option maxHeartbeats 4000000
theorem ale{ps:List Pn}{q:Nat}(h4:ps.length≤4):bQ ps 0 q=(List.range ps.length).filter fun i=>P9 ps q i:=by
 have e:List.range 4=List.range ps.length++(List.range (4-ps.length)).map (ps.length+ ·):=by
  rw[←List.range_add];congr 1;omega
 rw[bQ,e,List.filter_append]
 have h1:((List.range (4-ps.length)).map (ps.length+ ·)).filter (fun i=>P9 ps q i&& !(0:Nat).testBit i)=[]:=by
  refine List.filter_eq_nil_iff.2 fun i hi=>?_
  obtain⟨j,-,rfl⟩:=List.mem_map.1 hi
  unfold P9
  rw[List.getElem?_eq_none (by omega)];simp
 rw[h1,List.append_nil]
 exact List.filter_congr fun i _=>by simp
end Go.aS

/- Ways made of numbers. Conditions: none; over the given program. -/
namespace Go.aS
set_option maxRecDepth 100000
set_option maxHeartbeats 4000000
end Go.aS

/- A way gone along: where it leads, what comes out, what stops it. Conditions: none; no program in sight. -/
namespace Go.aS
set_option linter.unusedVariables false
end Go.aS

/- SyrupBoiled. Conditions: none; over the given program. -/
namespace Go.aS
set_option maxRecDepth 100000
set_option maxHeartbeats 4000000
theorem Os.room{α:Type}{row:α→List Value}{w:Nat}[Rw row w]{E:TypeId}{a:Option Addr}{n cap:Nat}{l:List α}{A:ah}(H:Os E row (.slice a n cap) l A):(a.map (·.spot)=some none∨a=none)∧l.length≤cap:=by
 rcases H with⟨rfl,e,-⟩ | ⟨β,c,cap',J,e,-,-,h,-,-⟩
 ·cases e;exact⟨.inr rfl,Nat.le_refl _⟩
 ·cases e;exact⟨.inl rfl,h⟩
end Go.aS

/- All upside down. Conditions: none; no program in sight. -/
namespace Go.aS
set_option linter.unusedVariables false
end Go.aS

/- SyrupMirror. Conditions: none; over the given program. -/
namespace Go.aS
set_option maxRecDepth 100000
set_option maxHeartbeats 4000000
theorem alW{ps:List Pn}{q e:Nat}(hq:q<13):enB ps (Ah (dO ps 0) q) e=true↔(∃v,qJ (dO ps 0) q v e)∧dY ps e=true:=by
 obtain⟨met,H⟩:=aee afX (q:=q) (g:=dO ps 0) F9
 rw[enB,List.any_eq_true]
 constructor
 ·rintro⟨w,hw,h⟩
  simp only[Bool.and_eq_true,decide_eq_true_eq]at h
  obtain⟨rfl,h⟩:=h
  exact⟨⟨w.1,H.path w (by simpa using hw)⟩,h⟩
 ·rintro⟨⟨v,hv⟩,ht⟩
  obtain⟨w,hw,h1,-⟩:=H.all v e hv
  exact⟨w,hw,by rw[h1,ht];simp⟩
end Go.aS

/- What all the best shares say of a lot. Conditions: none; over the given program. -/
namespace Go.aS
set_option maxRecDepth 100000
set_option maxHeartbeats 4000000
end Go.aS

/- All lists of pans, and the shares among them. Conditions: none; no program in sight. -/
namespace Go.aS
set_option linter.unusedVariables false
theorem amM{m:Nat}:∀{k:Nat},af7 m (k+1)=(List.range m).flatMap fun y=>(af7 m k).map (y:: ·)
 | 0=>by
  show([[]]:List (List Nat)).flatMap _=_
  simp only[af7,List.flatMap_cons,List.flatMap_nil,List.append_nil,List.nil_append,List.map_cons,List.map_nil]
  rw[←List.map_eq_flatMap]
 | k+1=>by
  show(af7 m (k+1)).flatMap (fun l=>(List.range m).map fun y=>l++[y])=(List.range m).flatMap fun y=>((af7 m k).flatMap fun l=>(List.range m).map fun y=>l++[y]).map (y:: ·)
  rw[amM,List.flatMap_assoc]
  refine congrArg (fun f=>List.flatMap f _) (funext fun y=>?_)
  rw[List.flatMap_map,List.map_flatMap]
  refine congrArg (fun f=>List.flatMap f _) (funext fun l=>?_)
  rw[List.map_map];rfl
def al9(m k:Nat):List (List Int):=(aff m k).map fun g=>g.map (· - 1)
theorem ana{m:Nat}:al9 m 0=[[]]:=rfl
theorem amN{m k:Nat}:al9 (m+1) (k+1)=(al9 (m+1) k).map ((-1:Int):: ·)++(List.range m).flatMap fun(p:Nat)=>(al9 (m+1) k).map ((p:Int):: ·):=by
 rw[al9,afL,amM,List.range_succ_eq_map,List.flatMap_cons,List.map_append,List.map_append,List.flatMap_map,List.map_flatMap,List.map_flatMap]
 congr 1
 ·rw[al9,afL,List.map_map,List.map_map,List.map_map,List.map_map]
  exact List.map_congr_left fun v _=>by simp[zs]
 ·refine congrArg (fun f=>List.flatMap f _) (funext fun p=>?_)
  rw[al9,afL,List.map_map,List.map_map,List.map_map,List.map_map]
  refine List.map_congr_left fun v _=>?_
  simp only[Function.comp,zs,List.map_cons,List.cons.injEq,and_true]
  omega
def alZ(ps:List Pn):List Lt→List Int→List Int→Bool
 | l::ls,rs,a::x=>if a<0 then alZ ps ls rs x else(fits l rs a.toNat&&P9 ps l.qu a.toNat)&&alZ ps ls (less l rs a.toNat) x
 | _,_,_=>true
theorem anb{ps:List Pn}{q:Int}(h4:ps.length≤4)(hq:0≤q):bQ ps 0 q.toNat=(List.range ps.length).filter fun i=>P9 ps q i:=by
 have e:List.range 4=List.range ps.length++(List.range (4-ps.length)).map (ps.length+ ·):=by
  rw[←List.range_add];congr 1;omega
 have hn:((q.toNat:Nat):Int)=q:=Int.toNat_of_nonneg hq
 rw[bQ,e,List.filter_append,hn]
 have h1:((List.range (4-ps.length)).map (ps.length+ ·)).filter (fun i=>P9 ps q i&& !(0:Nat).testBit i)=[]:=by
  refine List.filter_eq_nil_iff.2 fun i hi=>?_
  obtain⟨j,-,rfl⟩:=List.mem_map.1 hi
  unfold P9
  rw[List.getElem?_eq_none (by omega)];simp
 rw[h1,List.append_nil]
 exact List.filter_congr fun i _=>by simp
theorem amQ{ps:List Pn}(h4:ps.length≤4):∀{ls:List Lt} {rs pre:List Int},(∀l∈ls,0≤l.qu)→Dv ps ls rs pre=((al9 (ps.length+1) ls.length).filter (alZ ps ls rs)).map (pre++ ·)
 | [],rs,pre,_=>by
  rw[Dv,List.length_nil,ana];simp[alZ]
 | l::ls,rs,pre,hq=>by
  have hq':∀l∈ls,0≤l.qu:=fun x hx=>hq x (List.mem_cons_of_mem _ hx)
  rw[Dv,List.length_cons,amN,List.filter_append,List.map_append,List.filter_map,List.map_map,amQ h4 hq',anb h4 (hq l (List.mem_cons_self ..))]
  congr 1
  ·rw[show(alZ ps (l::ls) rs∘((-1:Int):: ·))=alZ ps ls rs from funext fun x=>by simp[alZ]]
   exact List.map_congr_left fun x _=>by simp
  ·rw[List.filter_flatMap,List.map_flatMap]
   generalize List.range ps.length=R
   induction R with
   | nil=>rfl
   | cons p R ih=>
    rw[List.flatMap_cons,←ih,List.filter_cons]
    have e:((al9 (ps.length+1) ls.length).map ((p:Int):: ·)).filter (alZ ps (l::ls) rs)=if fits l rs p&&P9 ps l.qu p then((al9 (ps.length+1) ls.length).filter (alZ ps ls (less l rs p))).map ((p:Int):: ·)else[]:=by
     rw[List.filter_map]
     have e2:(alZ ps (l::ls) rs∘((p:Int):: ·))=fun x=>(fits l rs p&&P9 ps l.qu p)&&alZ ps ls (less l rs p) x:=funext fun x=>by
      show alZ ps (l::ls) rs ((p:Int)::x)=_
      rw[alZ,if_neg (by omega),Int.toNat_natCast]
     rw[e2]
     cases hft:fits l rs p&&P9 ps l.qu p
     ·simp
     ·simp
    rw[e]
    cases ht:P9 ps l.qu p
    ·simp[ht]
    ·cases hf:fits l rs p
     ·simp[ht,hf]
     ·simp only[ht,hf,if_true,Bool.and_self,List.flatMap_cons,if_true]
      rw[amQ h4 hq',List.map_map]
      congr 1
      exact List.map_congr_left fun x _=>by simp
theorem amV{ps:List Pn}{ls:List Lt}{rs:List Int}(h4:ps.length≤4)(hq:∀l∈ls,0≤l.qu):yS ps ls rs=(al9 (ps.length+1) ls.length).filter (alZ ps ls rs):=by
 rw[yS,amQ h4 hq]
 exact(List.map_congr_left fun x _=>List.nil_append x).trans (List.map_id _)
end Go.aS

/- SyrupShared. Conditions: none; over the given program. -/
namespace Go.aS
set_option maxRecDepth 100000
set_option maxHeartbeats 4000000
end Go.aS

/- SyrupShared: what is kept as all lists are gone through. Conditions: none; over the given program. -/
namespace Go.aS
set_option maxRecDepth 100000
set_option maxHeartbeats 4000000
def amS(ps:List Pn)(ls:List Lt)(rs:List Int)(i:Nat):List (List Int):=((al9 (ps.length+1) ls.length).take i).filter (alZ ps ls rs)
def StS(ps:List Pn)(ls:List Lt)(rs:List Int)(i:Nat)(w:Int)(B:List (List Int)):Prop:=
 (i=0∧w= -1∧B=[])∨(1≤i∧wE (Ba ls) (amS ps ls rs i)=(w,B)∧B≠[]∧0≤w)
theorem ams{m:Nat}:∀{k:Nat},(al9 (m+1) k)[0]? =some (List.replicate k (-1))
 | 0=>rfl
 | k+1=>by
  have ih:=ams (m:=m) (k:=k)
  rw[amN,List.getElem?_append_left (by
   rw[List.length_map]
   exact(List.getElem?_eq_some_iff.1 ih).1),List.getElem?_map,ih];rfl
theorem StS.all{ps:List Pn}{ls:List Lt}{rs:List Int}{w:Int}{B:List (List Int)}(h4:ps.length≤4)(hlo:Au ls)(H:StS ps ls rs (al9 (ps.length+1) ls.length).length w B):oZ ps ls rs=(w,B):=by
 rcases H with⟨h,-⟩ | ⟨-,h,-⟩
 ·have:=(List.getElem?_eq_some_iff.1 (ams (m:=ps.length) (k:=ls.length))).1
  omega
 ·rw[oZ,amV h4 (fun l hl=>(hlo.lot l hl).1),←h,amS,List.take_length]
end Go.aS

/- SyrupShared. Conditions: none; over the given program. -/
namespace Go.aS
set_option maxRecDepth 100000
set_option maxHeartbeats 4000000
end Go.aS

/- Ways counted, step by step. Conditions: none; no program in sight. -/
namespace Go.aS
set_option linter.unusedVariables false
def am1(n:Nat)(f:Nat→Nat):Nat:=((List.range n).map f).sum
theorem anY{f:Nat→Nat}:am1 0 f=0:=rfl
theorem amF{n:Nat}{f:Nat→Nat}:am1 (n+1) f=am1 n f+f n:=by
 rw[am1,List.range_succ,List.map_append,List.sum_append];simp[am1]
theorem an3{f:Nat→Nat}:∀{n:Nat},am1 (n+1) f=f 0+am1 n fun m=>f (m+1)
 | 0=>by simp[am1]
 | n+1=>by rw[amF,an3,amF];omega
theorem anw{f g:Nat→Nat}:∀{n:Nat},(∀k,k<n→f k=g k)→am1 n f=am1 n g
 | 0,_=>rfl
 | n+1,h=>by rw[amF,amF,anw fun k hk=>h k (by omega),h n (by omega)]
theorem aop{f g:Nat→Nat}:∀{n:Nat},am1 n (fun k=>f k+g k)=am1 n f+am1 n g
 | 0=>rfl
 | n+1=>by rw[amF,amF,amF,aop];omega
theorem aoq{f:Nat→Nat}{c:Nat}:∀{n:Nat},am1 n (fun k=>f k*c)=am1 n f*c
 | 0=>by simp[am1]
 | n+1=>by rw[amF,amF,aoq,Nat.add_mul]
theorem aoj{f:Nat→Nat}{c:Nat}:∀{n:Nat},am1 n (fun k=>c*f k)=c*am1 n f
 | 0=>by simp[am1]
 | n+1=>by rw[amF,amF,aoj,Nat.mul_add]
theorem aom{f g:Nat→Nat}:∀{n:Nat},(∀k,k<n→f k≤g k)→am1 n f≤am1 n g
 | 0,_=>Nat.le_refl _
 | n+1,h=>by
  rw[amF,amF]
  have:=aom (n:=n) fun k hk=>h k (by omega)
  have:=h n (by omega)
  omega
theorem anW{f:Nat→Nat}{n:Nat}:∀{m:Nat},n≤m→am1 n f≤am1 m f
 | 0,h=>by
        obtain rfl:n=0:=by omega
        exact Nat.le_refl _
 | m+1,h=>by
  rcases Nat.lt_or_ge n (m+1)with h1 | h1
  ·rw[amF]
   have:=anW (f:=f) (n:=n) (m:=m) (by omega);omega
  ·obtain rfl:n=m+1:=by omega
   exact Nat.le_refl _
theorem aor{f:Nat→Nat}{n k:Nat}(h:k<n):f k≤am1 n f:=by
 have:=anW (f:=f) (n:=k+1) (m:=n) h
 rw[amF]at this;omega
theorem an5{f:Nat→Nat}{n:Nat}(h:∀m,n≤m→f m=0):∀{m:Nat},n≤m→am1 m f=am1 n f
 | 0,hm=>by
        obtain rfl:n=0:=by omega
        rfl
 | m+1,hm=>by
  rcases Nat.lt_or_ge n (m+1)with h1 | h1
  ·rw[amF,h m (by omega),an5 h (by omega),Nat.add_zero]
  ·obtain rfl:n=m+1:=by omega
   rfl
theorem an8{f:Nat→Nat}:∀{n:Nat},0<am1 n f↔∃k,k<n∧0<f k
 | 0=>by simp[am1]
 | n+1=>by
  rw[amF]
  constructor
  ·intro h
   rcases Nat.eq_zero_or_pos (f n)with h1 | h1
   ·obtain⟨k,h2,h3⟩:=an8.1 (show 0<am1 n f by omega)
    exact⟨k,by omega,h3⟩
   ·exact⟨n,by omega,h1⟩
  ·rintro⟨k,h2,h3⟩
   have:=aor (f:=f) h2
   rw[amF]at this;omega
theorem anC{α:Type}{f:Nat→α→Nat}{n:Nat}:∀{l:List α},am1 n (fun j=>(l.map (f j)).sum)=(l.map fun a=>am1 n fun j=>f j a).sum
 | []=>by
  have:∀n,am1 n (fun _=>0)=0:=fun n=>by induction n with
   | zero=>rfl
   | succ n ih=>rw[amF,ih]
  simpa using this n
 | a::l=>by
  simp only[List.map_cons,List.sum_cons]
  rw[aop,anC]
theorem aoI{f:Nat→Nat→Nat}{m:Nat}:∀{n:Nat},am1 n (fun j=>am1 m (f j))=am1 m fun k=>am1 n fun j=>f j k:=fun{n}=>anC (l:=List.range m)

def anX(g:yV)(k o:Nat):Nat:=((g k).map fun po=>if po.2=o then 1 else 0).sum
def anj(g:yV)(q:Nat):Nat→Nat→Nat
 | 0,o=>if o=q then 1 else 0
 | n+1,o=>am1 13 fun k=>anj g q n k*anX g k o
theorem anE{f:Nat→Nat}{q:Nat}:∀{n:Nat},am1 n (fun k=>(if k=q then 1 else 0)*f k)=if q<n then f q else 0
 | 0=>by simp[am1]
 | n+1=>by
  rw[amF,anE]
  by_cases h:n=q
  ·subst h;simp
  ·rw[if_neg h]
   by_cases h2:q<n
   ·rw[if_pos h2,if_pos (by omega)];omega
   ·rw[if_neg h2,if_neg (by omega)];omega
theorem an9{g:yV}(hn:∀k p o,(p,o)∈g k→o<13){q:Nat}(hq:q<13):∀{m k:Nat},anj g q (m+1) k=((g q).map fun po=>anj g po.2 m k).sum
 | 0,k=>by
  show am1 13 (fun j=>(if j=q then 1 else 0)*anX g j k)=_
  rw[anE,if_pos hq,anX]
  exact congrArg List.sum (List.map_congr_left fun po _=>by
   simp only[anj]
   by_cases h:po.2=k
   ·rw[if_pos h,if_pos h.symm]
   ·rw[if_neg h,if_neg (fun e=>h e.symm)])
 | m+1,k=>by
  have e:anj g q (m+2) k=am1 13 fun j=>((g q).map fun po=>anj g po.2 m j*anX g j k).sum:=by
   show am1 13 (fun j=>anj g q (m+1) j*anX g j k)=_
   refine anw fun j _=>?_
   rw[an9 hn hq]
   generalize g q=l
   induction l with
   | nil=>simp
   | cons a l ih=>simp only[List.map_cons,List.sum_cons,Nat.add_mul,ih]
  rw[e,anC];rfl
theorem aos{g:yV}{k o:Nat}:0<anX g k o↔∃p,(p,o)∈g k:=by
 rw[anX]
 generalize g k=l
 induction l with
 | nil=>simp
 | cons a l ih=>
  rw[List.map_cons,List.sum_cons]
  constructor
  ·intro h
   by_cases ha:a.2=o
   ·exact⟨a.1,by rw[←ha];exact .head _⟩
   ·rw[if_neg ha,Nat.zero_add]at h
    obtain⟨p,hp⟩:=ih.1 h
    exact⟨p,.tail _ hp⟩
  ·rintro⟨p,hp⟩
   rcases List.mem_cons.1 hp with rfl | hp
   ·simp;omega
   ·have:=ih.2 ⟨p,hp⟩;omega
theorem anK{g:yV}(hn:∀k p o,(p,o)∈g k→o<13){q:Nat}(hq:q<13):∀{n o:Nat},0<anj g q n o↔∃v:List Nat,v.length=n∧qJ g q v o
 | 0,o=>by
  simp only[anj]
  constructor
  ·intro h
   split at h
   ·rename_i h1;exact⟨[],rfl,h1.symm⟩
   ·cases h
  ·rintro⟨v,h1,h2⟩
   obtain rfl:=List.length_eq_zero_iff.1 h1
   rw[if_pos h2.symm];omega
 | n+1,o=>by
  rw[anj,an8]
  constructor
  ·rintro⟨k,hk,h⟩
   have h1:0<anj g q n k:=Nat.pos_of_ne_zero fun e=>by rw[e,Nat.zero_mul]at h;cases h
   have h2:0<anX g k o:=Nat.pos_of_ne_zero fun e=>by rw[e,Nat.mul_zero]at h;cases h
   obtain⟨v,h3,h4⟩:=(anK hn hq).1 h1
   obtain⟨p,hp⟩:=aos.1 h2
   exact⟨v++[p],by simp[h3],lW.2 ⟨k,h4,hp⟩⟩
  ·rintro⟨v,h1,h2⟩
   rcases List.eq_nil_or_concat v with rfl | ⟨r,p,rfl⟩
   ·cases h1
   ·rw[List.concat_eq_append]at*
    obtain⟨k,h3,h4⟩:=lW.1 h2
    exact⟨k,acs hn hq h3,Nat.mul_pos ((anK hn hq).2 ⟨r,by simpa using h1,h3⟩) (aos.2 ⟨p,h4⟩)⟩
theorem aoN{g:yV}(h4:∀k,(g k).length≤4){k:Nat}:am1 13 (anX g k)≤4:=by
 refine Nat.le_trans ?_ (h4 k)
 show am1 13 (fun o=>((g k).map fun po=>if po.2=o then 1 else 0).sum)≤_
 rw[anC]
 generalize g k=l
 induction l with
 | nil=>simp
 | cons a l ih=>
  rw[List.map_cons,List.sum_cons,List.length_cons]
  have:am1 13 (fun j=>if a.2=j then 1 else 0)≤1:=by
   have:=anE (f:=fun _=>1) (q:=a.2) (n:=13)
   have e:am1 13 (fun j=>if a.2=j then 1 else 0)=am1 13 fun k=>(if k=a.2 then 1 else 0)*1:=anw fun k _=>by
    by_cases h:a.2=k
    ·rw[if_pos h,if_pos h.symm]
    ·rw[if_neg h,if_neg (fun e=>h e.symm),Nat.zero_mul]
   rw[e,this];split <;>omega
  omega
theorem an_{g:yV}(h4:∀k,(g k).length≤4){q:Nat}:∀{n:Nat},am1 13 (anj g q n)≤4 ^ n
 | 0=>by
  have:=anE (f:=fun _=>1) (q:=q) (n:=13)
  have e:am1 13 (anj g q 0)=am1 13 fun k=>(if k=q then 1 else 0)*1:=anw fun k _=>by simp[anj]
  rw[e,this];split <;>omega
 | n+1=>by
  show am1 13 (fun o=>am1 13 fun k=>anj g q n k*anX g k o)≤_
  rw[aoI]
  have:am1 13 (fun k=>am1 13 fun o=>anj g q n k*anX g k o)≤am1 13 fun k=>anj g q n k*4:=aom fun k _=>by
   rw[aoj]
   exact Nat.mul_le_mul_left _ (aoN h4)
  rw[aoq]at this
  rw[Nat.pow_succ]
  exact Nat.le_trans this (Nat.mul_le_mul_right 4 (an_ h4))
theorem aoD{g:yV}(h4:∀k,(g k).length≤4){q n o:Nat}(ho:o<13)(hn:n≤14):anj g q n o≤268435456:=
 Nat.le_trans (aor ho) (Nat.le_trans (an_ h4) (Nat.le_trans (Nat.pow_le_pow_right (by omega) hn) (by decide)))
def aoe(g:yV)(T:Nat→Bool)(q m:Nat):Nat:=am1 13 fun k=>if T k then anj g q m k else 0
theorem aoZ{g:yV}(h4:∀k,(g k).length≤4){T:Nat→Bool}{q m:Nat}(hm:m≤13):aoe g T q m≤67108864:=
 Nat.le_trans (aom (g:=anj g q m) fun k _=>by split <;>omega) (Nat.le_trans (an_ h4) (Nat.le_trans (Nat.pow_le_pow_right (by omega) hm) (by decide)))
theorem aoA{g:yV}(hn:∀k p o,(p,o)∈g k→o<13){T:Nat→Bool}{q m:Nat}(hq:q<13):aoe g T q (m+1)=((g q).map fun po=>aoe g T po.2 m).sum:=by
 show _=((g q).map fun po=>am1 13 fun k=>if T k then anj g po.2 m k else 0).sum
 rw[aoe,←anC]
 refine anw fun k _=>?_
 rw[an9 hn hq]
 cases T k
 ·simp only[Bool.false_eq_true,if_false]
  generalize g q=l
  induction l with
  | nil=>rfl
  | cons a l ih=>rw[List.map_cons,List.sum_cons,←ih]
 ·simp
theorem aov{g:yV}(hn:∀k p o,(p,o)∈g k→o<13){T:Nat→Bool}:∀{f q:Nat},q<13→(qN g T f q).2=am1 f (aoe g T q)
 | 0,q,hq=>rfl
 | f+1,q,hq=>by
  rw[qN,RZ,an3]
  congr 1
  ·show _=am1 13 (fun k=>if T k then(if k=q then 1 else 0)else 0)
   have e:am1 13 (fun k=>if T k then(if k=q then 1 else 0)else 0)=am1 13 fun k=>(if k=q then 1 else 0)*(if T k then 1 else 0):=anw fun k _=>by cases T k <;>simp
   rw[e,anE,if_pos hq]
  ·rw[anw fun m _=>aoA hn hq (m:=m),anC]
   exact congrArg List.sum (List.map_congr_left fun po hpo=>aov hn (hn q po.1 po.2 hpo))
theorem aok{g:yV}(hn:∀k p o,(p,o)∈g k→o<13){T:Nat→Bool}{q n m:Nat}(hq:q<13)(h:dD g n q=false)(hm:n≤m):aoe g T q m=0:=by
 refine Nat.eq_zero_of_not_pos fun hp=>?_
 obtain⟨k,hk,h1⟩:=an8.1 hp
 have h2:0<anj g q m k:=by split at h1 <;>omega
 obtain⟨v,h3,h4⟩:=(anK hn hq).1 h2
 have:=Vk hm (JJ.2 ⟨v,k,h3,h4⟩)
 rw[h]at this;cases this
theorem aoJ{g:yV}(hn:∀k p o,(p,o)∈g k→o<13){T:Nat→Bool}{q n:Nat}(hq:q<13)(agu:n≤14)(h:dD g n q=false):(og g T q).2=am1 n (aoe g T q):=by
 have h13:dD g 13 q=false:=by
  refine Bool.eq_false_iff.2 fun hw=>?_
  rw[XU hn hq hw n]at h;cases h
 show(qN g T 13 q).2=_
 rw[aov hn hq,←an5 (fun m hm=>aok hn hq h13 hm) (show 13≤14 by omega),←an5 (fun m hm=>aok hn hq h hm) agu]
end Go.aS

/- SyrupEnd. Conditions: none; over the given program. -/
namespace Go.aS
set_option maxRecDepth 100000
set_option maxHeartbeats 4000000
def nL(f:Nat→Nat):List Int:=(List.range 13).map fun k=>((f k:Nat):Int)
abbrev nA(f:Nat→Nat):Array Value:=uV (nL f)
theorem anD{f g:Nat→Nat}(h:∀k,k<13→f k=g k):nL f=nL g:=List.map_congr_left fun k hk=>by rw[h k (List.mem_range.1 hk)]
theorem aoy{f:Nat→Nat}{k:Nat}(h:k<13):(nL f)[k]? =some ((f k:Nat):Int):=by rw[nL,List.getElem?_map,List.getElem?_range h];rfl
theorem aoE{f:Nat→Nat}:(nA f).size=13:=by rw[qj];simp[nL]
theorem aoO{f:Nat→Nat}{k v:Nat}(h:k<13):(nL f).set k ((v:Nat):Int)=nL fun i=>if i=k then v else f i:=by
 apply List.ext_getElem?
 intro j
 rw[List.getElem?_set,show(nL f).length=13 by simp[nL]]
 by_cases hj:j<13
 ·by_cases hk:k=j
  ·subst hk;rw[if_pos rfl,if_pos h,aoy h,if_pos rfl]
  ·rw[if_neg hk,aoy hj,aoy hj,if_neg (fun e=>hk e.symm)]
 ·rw[List.getElem?_eq_none (show(nL fun i=>if i=k then v else f i).length≤j by simp[nL];omega),if_neg (by omega),List.getElem?_eq_none (by simp[nL];omega)]

def an1(ps:List Pn)(k i o:Nat):Nat:=((List.range i).map fun j=>if P9 ps k j&&decide (gy ps j k=o)then 1 else 0).sum
theorem anZ{ps:List Pn}{k i o:Nat}:an1 ps k (i+1) o=an1 ps k i o+if P9 ps k i&&decide (gy ps i k=o)then 1 else 0:=by
 rw[an1,List.range_succ,List.map_append,List.sum_append];simp[an1]
theorem aoP{ps:List Pn}(h4:ps.length≤4){k o:Nat}:an1 ps k ps.length o=anX (dO ps 0) k o:=by
 rw[anX,dO,List.map_map,ale h4,an1]
 generalize List.range ps.length=R
 induction R with
 | nil=>rfl
 | cons j R ih=>
  rw[List.map_cons,List.sum_cons,ih,List.filter_cons]
  cases P9 ps k j
  ·simp
  ·by_cases h:gy ps j k=o <;>simp[h]
def anz(ps:List Pn)(N:Nat→Nat)(k i o:Nat):Nat:=am1 k (fun j=>N j*anX (dO ps 0) j o)+N k*an1 ps k i o
theorem aoz{ps:List Pn}{N:Nat→Nat}(h4:ps.length≤4){k o:Nat}:anz ps N k ps.length o=anz ps N (k+1) 0 o:=by
 rw[anz,anz,aoP h4,amF];simp[an1]
theorem an0{ps:List Pn}{N:Nat→Nat}{k i o:Nat}(h:N k=0∨P9 ps k i=false):anz ps N k (i+1) o=anz ps N k i o:=by
 rw[anz,anz,anZ]
 rcases h with h | h <;>simp[h]
theorem aoQ{ps:List Pn}{N:Nat→Nat}{k i o:Nat}(h:P9 ps k i=true):(if o=gy ps i k then anz ps N k i (gy ps i k)+N k else anz ps N k i o)=anz ps N k (i+1) o:=by
 rw[anz,anz,anz,anZ,h]
 by_cases ho:o=gy ps i k
 ·subst ho
  rw[if_pos rfl,Nat.mul_add];simp;omega
 ·rw[if_neg ho,decide_eq_false (fun e=>ho e.symm)];simp
theorem ao0{ps:List Pn}(h4:ps.length≤4){q n k i o:Nat}(hn:n≤13)(hk:k<13)(hi:i≤ps.length)(ho:o<13):anz ps (anj (dO ps 0) q n) k i o≤268435456:=by
 have h1:anz ps (anj (dO ps 0) q n) k i o≤anz ps (anj (dO ps 0) q n) (k+1) 0 o:=by
  rw[←aoz h4,anz,anz]
  refine Nat.add_le_add_left (Nat.mul_le_mul_left _ ?_) _
  have:∀m,an1 ps k i o≤an1 ps k (i+m) o:=fun m=>by
   induction m with
   | zero=>exact Nat.le_refl _
   | succ m ih=>rw[show i+(m+1)=(i+m)+1 by omega,anZ];omega
  have h2:=this (ps.length-i)
  rw[show i+(ps.length-i)=ps.length by omega]at h2
  exact h2
 refine Nat.le_trans h1 (Nat.le_trans ?_ (aoD (g:=dO ps 0) (q:=q) (n:=n+1) (fun _=>EK) ho (by omega)))
 rw[anz,anj]
 have:an1 ps (k+1) 0 o=0:=rfl
 rw[this,Nat.mul_zero,Nat.add_zero]
 exact anW (by omega)
def anO(ps:List Pn)(N:Nat→Nat)(k i:Nat):Bool:=((List.range k).any fun j=>decide (0<N j)&&(List.range ps.length).any fun i=>P9 ps j i)|| (decide (0<N k)&&(List.range i).any fun i=>P9 ps k i)
theorem anM{ps:List Pn}{N:Nat→Nat}{k i:Nat}:anO ps N k (i+1)=(anO ps N k i|| (decide (0<N k)&&P9 ps k i)):=by
 rw[anO,anO,List.range_succ,List.any_append]
 cases decide (0<N k) <;>simp[Bool.or_assoc]
theorem aoR{ps:List Pn}{N:Nat→Nat}{k:Nat}:anO ps N k ps.length=anO ps N (k+1) 0:=by
 rw[anO,anO,List.range_succ,List.any_append];simp
theorem aoS{ps:List Pn}(h4:ps.length≤4){q n:Nat}(hq:q<13):anO ps (anj (dO ps 0) q n) 13 0=dD (dO ps 0) (n+1) q:=by
 rw[Bool.eq_iff_iff,JJ,anO]
 simp only[List.range_zero,List.any_nil,Bool.and_false,Bool.or_false,List.any_eq_true,List.mem_range,Bool.and_eq_true,decide_eq_true_eq,anK F9 hq]
 constructor
 ·rintro⟨k,hk,⟨v,h1,h2⟩,i,hi,ht⟩
  exact⟨v++[i],gy ps i k,by simp[h1],lW.2 ⟨k,h2,(agZ h4).2 ⟨ht,rfl⟩⟩⟩
 ·rintro⟨v,e,h1,h2⟩
  rcases List.eq_nil_or_concat v with rfl | ⟨r,p,rfl⟩
  ·cases h1
  ·rw[List.concat_eq_append]at*
   obtain⟨k,h3,h5⟩:=lW.1 h2
   obtain⟨ht,-⟩:=(agZ h4).1 h5
   exact⟨k,acs F9 hq h3,⟨r,by simpa using h1,h3⟩,p,agC ht,ht⟩
def anB(ps:List Pn)(q n k e:Nat):Bool:=((List.range n).any (fun m=>decide (0<anj (dO ps 0) q m e))|| (decide (0<anj (dO ps 0) q n e)&&decide (e<k)))&&dY ps e
theorem aoK{ps:List Pn}{q e:Nat}:anB ps q 0 0 e=false:=by simp[anB]
theorem aoT{ps:List Pn}{q n e:Nat}(he:e<13):anB ps q n 13 e=anB ps q (n+1) 0 e:=by
 rw[anB,anB,List.range_succ,List.any_append,decide_eq_true he];simp
theorem aoU{ps:List Pn}{q n k e:Nat}(h1:0<anj (dO ps 0) q n k)(h2:dY ps k=true):(if e=k then true else anB ps q n k e)=anB ps q n (k+1) e:=by
 by_cases h:e=k
 ·subst h
  rw[if_pos rfl,anB,h2,decide_eq_true h1,decide_eq_true (Nat.lt_succ_self _)];simp
 ·rw[if_neg h,anB,anB,show decide (e<k+1)=decide (e<k)from decide_eq_decide.2 (by omega)]
theorem aol{ps:List Pn}{q n k e:Nat}(h:anj (dO ps 0) q n k=0∨dY ps k=false):anB ps q n (k+1) e=anB ps q n k e:=by
 by_cases he:e=k
 ·subst he
  rw[anB,anB]
  rcases h with h | h
  ·rw[h];rfl
  ·rw[h,Bool.and_false,Bool.and_false]
 ·rw[anB,anB,show decide (e<k+1)=decide (e<k)from decide_eq_decide.2 (by omega)]
theorem ao1{ps:List Pn}{q n e:Nat}(hq:q<13)(he:e<13)(hn:n=14∨(n≤14∧dD (dO ps 0) n q=false)):anB ps q n 0 e=enB ps (Ah (dO ps 0) q) e:=by
 rw[Bool.eq_iff_iff,alW hq,anB]
 simp only[Nat.not_lt_zero,decide_false,Bool.and_false,Bool.or_false,Bool.and_eq_true,List.any_eq_true,List.mem_range,decide_eq_true_eq,anK F9 hq]
 refine and_congr_left fun _=>⟨fun⟨m,hm,v,h1,h2⟩=>⟨v,h2⟩,fun⟨v,hv⟩=>?_⟩
 rcases hn with rfl | ⟨hn,hw⟩
 ·obtain⟨met,H⟩:=aee afX (q:=q) (g:=dO ps 0) F9
  obtain⟨w,hw,h1,-⟩:=H.all v e hv
  obtain⟨m,hm,hl⟩:=(aiq afX (q:=q) (g:=dO ps 0) F9 hq (e:=e)).1 ⟨w,hw,h1⟩
  obtain⟨v',e',h3,h4,h5⟩:=JI.1 hl
  obtain rfl:e'=e:=by simpa using h5
  exact⟨m,hm,v',h3,h4⟩
 ·refine⟨v.length,?_,v,rfl,hv⟩
  refine Classical.byContradiction fun hc=>?_
  have:=Vk (n:=n) (m:=v.length) (by omega) (JJ.2 ⟨v,e,rfl,hv⟩)
  rw[hw]at this;cases this
def smN(ps:List Pn)(q n k:Nat):Nat:=am1 n (aoe (dO ps 0) (fun k=>dY ps k) q)+am1 k (fun j=>if dY ps j then anj (dO ps 0) q n j else 0)
theorem aoa{ps:List Pn}{q n k:Nat}:smN ps q n (k+1)=smN ps q n k+if dY ps k then anj (dO ps 0) q n k else 0:=by
 rw[smN,smN,amF,Nat.add_assoc]
theorem aoF{ps:List Pn}{q n:Nat}:smN ps q n 13=smN ps q (n+1) 0:=by
 rw[smN,smN,anY,Nat.add_zero,amF (f:=aoe (dO ps 0) (fun k=>dY ps k) q)];rfl
theorem apk{ps:List Pn}{q n k:Nat}(hn:n≤13)(hk:k≤13):smN ps q n k≤939524096:=by
 have h1:smN ps q n k≤smN ps q n 13:=Nat.add_le_add_left (anW hk) _
 rw[aoF]at h1
 refine Nat.le_trans h1 ?_
 rw[smN,anY,Nat.add_zero]
 refine Nat.le_trans (anW (m:=14) (by omega)) ?_
 have:∀m,m≤14→am1 m (aoe (dO ps 0) (fun k=>dY ps k) q)≤m*67108864:=fun m hm=>by
  induction m with
  | zero=>simp[am1]
  | succ m ih=>
   rw[amF]
   have:=ih (by omega)
   have:=aoZ (g:=dO ps 0) (fun _=>EK) (T:=fun k=>dY ps k) (q:=q) (m:=m) (by omega)
   omega
 exact this 14 (by omega)
theorem aoL{ps:List Pn}{q n:Nat}(hps:nV ps=0)(hq:q<13)(hn:n=14∨(n≤14∧dD (dO ps 0) n q=false)):
  (dD (dO ps 0) n q=true∧(qh ps q).2=9∧(qh ps q).1.2=0)∨(dD (dO ps 0) n q=false∧(qh ps q).2=0∧(qh ps q).1.2=smN ps q n 0):=by
 have e1:qh ps q=if dD (dO ps 0) 13 q=true then((0,0),9)else(og (dO ps 0) (fun k=>dY ps k) q,0):=by
  rw[qh,if_neg (by rw[UH hps (by omega) (by omega)];simp),Int.toNat_natCast]
 cases hw:dD (dO ps 0) n q
 ·have h13:dD (dO ps 0) 13 q=false:=by
   refine Bool.eq_false_iff.2 fun h=>?_
   rw[XU F9 hq h n]at hw;cases hw
  rw[e1,h13,if_neg (by decide)]
  exact .inr ⟨rfl,rfl,by rw[aoJ F9 hq (by omega) hw,smN,anY,Nat.add_zero]⟩
 ·have h13:dD (dO ps 0) 13 q=true:=by
   rcases hn with rfl | ⟨-,h⟩
   ·exact Ob hw
   ·rw[h]at hw;cases hw
  rw[e1,h13,if_pos rfl]
  exact .inl ⟨rfl,rfl,rfl⟩
theorem aoV{f:Nat→Bool}{k:Nat}(hk:k<13)(h:f k=true):(qsL f)[((List.range k).filter f).length]? =some k∧((List.range k).filter f).length<(qsL f).length:=by
 obtain⟨r,hr⟩:=ajI (n:=12) (k:=k) (by omega)
 have e:qsL f=(List.range k).filter f++(k::r).filter f:=by rw[qsL,hr,List.filter_append]
 rw[e,List.filter_cons,if_pos h]
 exact⟨by rw[List.getElem?_append_right (Nat.le_refl _),Nat.sub_self];rfl,by simp⟩
end Go.aS

/- SyrupEnd. Conditions: none; over the given program. -/
namespace Go.aS
set_option maxRecDepth 100000
set_option maxHeartbeats 4000000
theorem ao2{x:Cx}{ρ:Env}{F:ah}{o:Oper}{v:Value}{R:Value→ah→Prop}(hy:Yv x (· =F) ρ o v)(K:R v F):Ef x ρ o F R:=Ef.xW fun e he h' hE=>lM (hy e he F rfl h' hE) fun nx F' h=>⟨v,.inl h.1,h.2▸K⟩
theorem aon(main:Side)(hS:∀S,main.ok S→∃Fin,S=Mo prog Fin)(hmb:main.b=true)(h:Hp)(nums:List Int)(lv:Value)(Eg:TypeId)(zg:Nat×Nat)(hl:Sl h fH lv nums)(hg:h 0=some (.cells #[Ur qM] Eg zg))(z0:h.z 0):QE prog main ant #[lv] h (.bool true):=by
 refine QE.aG anv rfl (by show 1≤182;decide) [(0,lv)] ⟨rfl,trivial⟩ ?_
 refine W.seq<|W.region rfl<|agb rfl rfl rfl<|pq<|W.seq<|W.region rfl<|qm rfl rfl rfl ?_
 refine c0 (fun h' hE hL=>VQ _ h' nums lv (hl.ext hE)) (fun v A' hv=>?_)
 obtain⟨b,s0,rfl,rfl⟩:=hv
 refine agb rfl rfl rfl<|pq<|W.seq<|W.region rfl<|qm rfl rfl rfl ?_
 refine cg (A:=[(b,wF lv 0 s0)]) .head (fun h' hE hL=>OA _ h' nums lv b 0 s0 4 (hl.ext hE) (by omega) (by omega)) (fun v A' hv=>?_)
 obtain⟨ps0,Sp0,k',s',hO0,⟨hpl0,hck0⟩,hk',hsb⟩:=hv
 refine Ops.sb (F':=[(b,wF lv k' s')]++Sp0) (by simpa using hsb) ?_
 refine agb rfl rfl rfl<|pq<|W.seq ?_
 refine W.aiB (σ:=List Pn×Value×ah) (fun t=>Os Ag Pn.row t.2.1 t.1 t.2.2∧t.1.length≤4∧∀p∈t.1,gW p=0) (fun t=>[(4,t.2.1)]) (fun t=>t.2.2++[]) ?_ ?_
 ·refine W.seq<|W.region rfl<|qm rfl rfl rfl ?_
  refine cg (A:=[(b,wF lv k' s')]) .head (fun h' hE hL=>VP _ h' nums lv b k' s' 3 (hl.ext hE) (by omega) (by omega)) (fun v' A' hv=>?_)
  obtain⟨rb,s4,rfl,af4⟩:=hv
  refine Ops.sb (F':=[(b,wF lv (k'+1) s4)]++Sp0) (af4.app .refl) ?_
  refine pq ?_
  refine W.cond rfl (fun c26=>?_) (fun c26=>?_)
  ·refine W.region rfl<|qm rfl rfl rfl ?_
   refine cg (A:=[(b,wF lv (k'+1) s4)]) .head (fun h' hE hL=>VT _ h' nums lv b (k'+1) s4 4 (hl.ext hE) (by omega) (by omega)) (fun v2 A' hv=>?_)
   obtain⟨ps1,Sp1,k2,s5,hO1,⟨aqE,hck1⟩,-,afA⟩:=hv
   refine Ops.sb (F':=Sp1++[]) ((Sb.skip rfl .refl).trans afA |>.app (.nil hO0.shut)) ?_
   refine agb rfl rfl rfl<|Ops.nil ?_
   exact⟨rfl,rfl,(ps1,v2,Sp1),⟨hO1,aqE,hck1⟩,⟨rfl,trivial⟩,.refl⟩
  ·refine W.skip ?_
   exact⟨rfl,rfl,(ps0,v,Sp0),⟨hO0,hpl0,hck0⟩,⟨rfl,trivial⟩,.skip rfl (by rw[List.append_nil];exact .refl)⟩
 ·clear hO0 hpl0 hck0 hsb
  rintro⟨ps,v,Sp⟩ ⟨hO,hpl,hck⟩
  dsimp only at*
  have hps:=aaD hpl hck
  have hok:=iP.yB hps
  have h4:=hok.len
  refine JU hO (fun hz hEz hsl hzs=>?_)
  obtain⟨a,cap,rfl⟩:=hsl.dA
  have hgz:=hEz.1 _ _ hg
  refine W.seq<|W.seq<|W.region rfl<|agb rfl rfl rfl<|pq<|W.block ?_
  refine W.loop (σ:=Nat) (fun q=>q≤13) (fun q=>[(5,I q),(4,.slice a ps.length cap)]) (fun _=>[]) (fun q=>13-q) 0 (Nat.zero_le _) ⟨rfl,rfl,trivial⟩ TW ?_
  rintro q hq
  refine W.seq<|W.seq<|W.region rfl<|qm rfl rfl rfl ?_
  refine agW (Lr rfl rfl rfl) rfl ?_
  refine pq ?_
  refine W.bC rfl (fun c30=>?_) (fun c30=>?_)
  ·have Dn:q<13:=by omega
   refine W.skip<|aA<|W.seq<|W.block<|W.seq<|W.region rfl ?_
   refine oe rfl wn rfl rfl (G8 (n:=13) rfl rfl rfl (by decide) (fun apO=>?_))
   rw[show(List.replicate 13 (I 0)).toArray=nA fun _=>0 from rfl]
   have hsz0:0+q*1<(nA fun _=>0).size:=by rw[aoE];omega
   refine agb rfl rfl rfl<|pq<|W.seq<|W.region rfl<|qm rfl rfl rfl<|qm rfl rfl rfl ?_
   refine ag3 rfl ?_
   refine Ops.yG ?_
   refine pq ?_
   refine W.sb (F':=[(apO,.cells (nA (anj (dO ps 0) q 0)) dL (0,0))]) (.eq (eqc ?_)) ?_
   ·rw[Ux]
    exact(congrArg uV ((aoO (f:=fun _=>0) (v:=1) Dn).trans (anD fun i _=>rfl))).symm
   refine W.seq<|W.region rfl ?_
   refine oe rfl wn rfl rfl (G8 (n:=13) rfl rfl rfl (by decide) (fun akW=>?_))
   rw[QI]
   refine agb rfl rfl rfl<|pq<|W.seq<|W.region rfl<|agb rfl rfl rfl<|agb rfl rfl rfl<|pq<|W.seq ?_
   refine W.seq<|W.region rfl<|agb rfl rfl rfl<|pq<|W.block ?_
   refine W.aa1 (fun(n:Nat) (βn:Nat)=>n≤14) (fun n βn=>[(10,I n),(9,.bool (dD (dO ps 0) n q)),(8,I (smN ps q n 0)),(7,V9 akW),(6,V9 βn),(5,I q),(4,.slice a ps.length cap)])
    (fun n βn=>[(βn,.cells (nA (anj (dO ps 0) q n)) dL (0,0)),(akW,bsO (anB ps q n 0))]) (fun n _=>14-n) 0 apO (by omega) ⟨rfl,lk rfl (congrArg Value.bool (show true=dD (dO ps 0) 0 q from rfl)),rfl,rfl,rfl,rfl,rfl,trivial⟩ (Sb.trans (.eq (by rw[show(anB ps q 0 0)=fun _=>false from funext fun e=>aoK])) (.dF (List.Perm.swap ..))) ?_
   rintro n βn hn
   refine W.seq<|W.seq ?_
   refine W.aiB (σ:=Bool) (fun b=>b=true↔n≤13∧dD (dO ps 0) n q=true) (fun b=>[(42,.bool b),(10,I n),(9,.bool (dD (dO ps 0) n q)),(8,I (smN ps q n 0)),(7,V9 akW),(6,V9 βn),(5,I q),(4,.slice a ps.length cap)]) (fun _=>[(βn,.cells (nA (anj (dO ps 0) q n)) dL (0,0)),(akW,bsO (anB ps q n 0))]) ?_ ?_
   ·refine W.region rfl<|qm rfl rfl rfl ?_
    refine agW (Lr rfl rfl rfl) rfl ?_
    refine qm rfl rfl rfl ?_
    refine Ops.ask (fun agN=>?_) (fun agN=>?_)
    ·refine oq (aN rfl rfl) rfl (ak rfl rfl rfl) rfl rfl ?_
     refine agW (dG rfl rfl rfl) rfl ?_
     refine Ops.nil ?_
     refine⟨rfl,rfl,_,?_,⟨rfl,rfl,rfl,rfl,rfl,rfl,rfl,rfl,trivial⟩,.refl⟩
     first | exact⟨fun h=>⟨by omega,h⟩,fun h=>h.2⟩ | exact⟨(fun h=>by cases h),fun h=>by omega⟩
    ·refine Ops.no ?_
     refine agW (iH rfl rfl rfl) rfl ?_
     refine Ops.nil ?_
     refine⟨rfl,rfl,_,?_,⟨rfl,rfl,rfl,rfl,rfl,rfl,rfl,rfl,trivial⟩,.refl⟩
     first | exact⟨fun h=>⟨by omega,h⟩,fun h=>h.2⟩ | exact⟨(fun h=>by cases h),fun h=>by omega⟩
   ·intro B13 amT
    refine W.cond rfl (fun c42=>?_) (fun c42=>?_)
    ·obtain⟨apP,hwn⟩:=amT.1 c42
     refine W.skip<|aA<|W.seq<|W.block<|W.seq<|W.region rfl ?_
     refine oe rfl wn rfl rfl (G8 (n:=13) rfl rfl rfl (by decide) (fun ae_=>?_))
     rw[show(List.replicate 13 (I 0)).toArray=nA (anz ps (anj (dO ps 0) q n) 0 0)from(congrArg uV (anD (f:=anz ps (anj (dO ps 0) q n) 0 0) (g:=fun _=>0) fun k _=>by simp[anz,am1,an1])).symm]
     refine agb rfl rfl rfl<|pq<|W.seq<|W.region rfl<|agb rfl rfl rfl<|pq<|W.seq<|W.seq ?_
     refine W.region rfl<|agb rfl rfl rfl<|pq<|W.block ?_
     refine W.loop (σ:=Nat) (fun k=>k≤13) (fun k=>[(12,I k),(11,V9 ae_),(10,I n),(9,.bool (anO ps (anj (dO ps 0) q n) k 0)),(8,I (smN ps q n k)),(7,V9 akW),(6,V9 βn),(5,I q),(4,.slice a ps.length cap)])
      (fun k=>[(ae_,.cells (nA (anz ps (anj (dO ps 0) q n) k 0)) dL (0,0)),(βn,.cells (nA (anj (dO ps 0) q n)) dL (0,0)),(akW,bsO (anB ps q n k))]) (fun k=>13-k) 0 (Nat.zero_le _) ⟨rfl,rfl,rfl,lk rfl (congrArg Value.bool (show false=anO ps (anj (dO ps 0) q n) 0 0 by simp[anO])),rfl,rfl,rfl,rfl,rfl,trivial⟩ .refl ?_
     rintro k hk
     refine W.seq<|W.seq<|W.region rfl<|qm rfl rfl rfl ?_
     refine agW (Lr rfl rfl rfl) rfl ?_
     refine pq ?_
     refine W.bC rfl (fun c47=>?_) (fun c47=>?_)
     ·have Vq:k<13:=by omega
      have hNk:=ab4 (aoy (f:=anj (dO ps 0) q n) Vq)
      have hNb:=aoD (g:=dO ps 0) (fun _=>EK) (q:=q) (n:=n) Vq (by omega)
      have hsm:=apk (ps:=ps) (q:=q) (k:=k) apP hk
      have aq1:0+k*1<(bA (anB ps q n k)).size:=by rw[nX];omega
      refine W.skip<|aA<|W.seq<|W.block<|W.seq ?_
      refine W.cut [(12,I k),(11,V9 ae_),(10,I n),(9,.bool (anO ps (anj (dO ps 0) q n) k 0)),(8,I (smN ps q n (k+1))),(7,V9 akW),(6,V9 βn),(5,I q),(4,.slice a ps.length cap)] [(ae_,.cells (nA (anz ps (anj (dO ps 0) q n) k 0)) dL (0,0)),(βn,.cells (nA (anj (dO ps 0) q n)) dL (0,0)),(akW,bsO (anB ps q n (k+1)))] ?_ ?_
      ·refine W.seq<|W.region rfl<|qm rfl rfl rfl<|qm rfl rfl rfl ?_
       refine ag3 rfl ?_
       refine agX rfl ?_
       refine agW (rC rfl rfl rfl) rfl ?_
       refine qm rfl rfl rfl ?_
       refine Ops.ask (fun apT=>?_) (fun apT=>?_)
       ·refine oq (aN rfl rfl) rfl (ak rfl rfl rfl) rfl rfl ?_
        refine oq (aN rfl rfl) rfl (ak rfl rfl rfl) rfl rfl ?_
        refine cp (g:=some _) (fun h' hE hL=>ah6 _ h' ps _ k (hsl.ext hE) (by omega)) ?_
        refine agW (dG rfl rfl rfl) rfl ?_
        refine pq ?_
        refine W.cond rfl (fun c59=>?_) (fun c59=>?_)
        ·refine W.region rfl<|qm rfl rfl rfl<|qm rfl rfl rfl<|qm rfl rfl rfl<|qm rfl rfl rfl<|qm rfl rfl rfl ?_
         refine ag3 rfl ?_
         refine agX rfl ?_
         refine ag1 rfl ?_
         refine ag3 rfl ?_
         refine Ops.yG ?_
         refine agb rfl rfl rfl<|Ops.nil ?_
         have hN0:0<anj (dO ps 0) q n k:=by omega
         refine⟨rfl,rfl,⟨rfl,rfl,rfl,rfl,lk rfl (congrArg (Value.int .i64) (show(smN ps q n k:Int)+(anj (dO ps 0) q n k:Int)=((smN ps q n (k+1):Nat):Int) by rw[aoa,c59,if_pos rfl];omega)),rfl,rfl,rfl,rfl,trivial⟩,.cons (.cons (.eq ?_))⟩
         rw[show 0+k*1=k by omega,Og Vq]
         exact(eqc (qg fun i _=>aoU hN0 c59)).symm
        ·refine W.skip ?_
         have hN0:anj (dO ps 0) q n k=0∨dY ps k=false:=by
          first | exact .inr (by simpa using c59) | exact .inl (by omega)
         refine⟨rfl,rfl,⟨rfl,rfl,rfl,rfl,lk rfl (congrArg (Value.int .i64) (show(smN ps q n k:Int)=((smN ps q n (k+1):Nat):Int) by rw[aoa];rcases hN0 with h | h <;>simp[h])),rfl,rfl,rfl,rfl,trivial⟩,.cons (.cons (.eq ?_))⟩
         exact(eqc (qg fun i _=>(aol hN0).symm)).symm
       ·refine Ops.no ?_
        refine Ops.no ?_
        refine Ops.no ?_
        refine agW (iH rfl rfl rfl) rfl ?_
        refine pq ?_
        refine W.bZ ?_
        refine W.skip ?_
        have hN0:anj (dO ps 0) q n k=0∨dY ps k=false:=by
         first | exact .inr (by simpa using c59) | exact .inl (by omega)
        refine⟨rfl,rfl,⟨rfl,rfl,rfl,rfl,lk rfl (congrArg (Value.int .i64) (show(smN ps q n k:Int)=((smN ps q n (k+1):Nat):Int) by rw[aoa];rcases hN0 with h | h <;>simp[h])),rfl,rfl,rfl,rfl,trivial⟩,.cons (.cons (.eq ?_))⟩
        exact(eqc (qg fun i _=>(aol hN0).symm)).symm
      ·refine W.seq<|W.region rfl<|agb rfl rfl rfl<|pq<|W.block ?_
       refine W.loop (σ:=Nat) (fun i=>i≤ps.length) (fun i=>[(13,I i),(12,I k),(11,V9 ae_),(10,I n),(9,.bool (anO ps (anj (dO ps 0) q n) k i)),(8,I (smN ps q n (k+1))),(7,V9 akW),(6,V9 βn),(5,I q),(4,.slice a ps.length cap)])
        (fun i=>[(ae_,.cells (nA (anz ps (anj (dO ps 0) q n) k i)) dL (0,0)),(βn,.cells (nA (anj (dO ps 0) q n)) dL (0,0)),(akW,bsO (anB ps q n (k+1)))]) (fun i=>ps.length-i) 0 (Nat.zero_le _) ⟨rfl,rfl,rfl,rfl,rfl,rfl,rfl,rfl,rfl,rfl,trivial⟩ .refl ?_
       rintro i hi
       refine W.seq<|W.seq<|W.region rfl<|qm rfl rfl rfl<|qm rfl rfl rfl ?_
       refine agW (dM rfl rfl) rfl ?_
       refine agW (fO rfl rfl rfl) rfl ?_
       refine pq ?_
       refine W.bC rfl (fun c72=>?_) (fun c72=>?_)
       ·have hil:i<ps.length:=by omega
        obtain⟨p,hp,-⟩:=has hil
        have hpk:=hok.pan p (List.mem_of_getElem? hp)
        have ht:=agK (q:=k) hp
        obtain⟨bb,off,c,E,fz,hv,hb,hxx,hyy,hz9⟩:=hsl.at hp
        cases hv
        have hx':c.extract (off+i*3) (off+i*3+3)= #[I p.lo,I p.hi,I p.sh]:=hxx
        have hq0:c[off+i*3+0]? =some (I p.lo):=hz9 0 (by decide)
        have hq1:c[off+i*3+1]? =some (I p.hi):=hz9 1 (by decide)
        clear hxx hz9
        have SH:gy ps i k<13:=AZ
        have hXo:=ab4 (aoy (f:=anz ps (anj (dO ps 0) q n) k i) SH)
        have hXb:=ao0 h4 (q:=q) apP Vq hi SH
        have aq2:0+gy ps i k*1<(nA (anz ps (anj (dO ps 0) q n) k i)).size:=by rw[aoE];omega
        refine W.skip<|aA<|W.seq<|W.block<|W.seq<|W.region rfl<|qm rfl rfl rfl<|qm rfl rfl rfl ?_
        refine ag3 rfl ?_
        refine agX rfl ?_
        refine agW (rC rfl rfl rfl) rfl ?_
        refine qm rfl rfl rfl ?_
        refine Ops.ask (fun apV=>?_) (fun apV=>?_)
        ·refine oq (aN rfl rfl) rfl (ak rfl rfl rfl) rfl rfl ?_
         refine oq (aN rfl rfl) rfl (ak rfl rfl rfl) rfl rfl ?_
         refine oq (aN rfl rfl) rfl (ak rfl rfl rfl) rfl rfl ?_
         first | refine oq (G_ rfl rfl rfl) rfl (ak rfl rfl rfl) rfl rfl ?_ | refine oq (o_ rfl rfl rfl) rfl (ak rfl rfl rfl) rfl rfl ?_
         refine oq (ay rfl rfl) rfl (ak rfl rfl rfl) rfl rfl ?_
         refine oq (iQ rfl rfl) rfl (ak rfl rfl rfl) rfl rfl ?_
         refine oq (IJ rfl rfl rfl) rfl (ak rfl rfl rfl) rfl rfl ?_
         refine agW (dG rfl rfl rfl) rfl ?_
         refine qm rfl rfl rfl ?_
         refine Ops.ask (fun apl=>?_) (fun apl=>?_)
         ·refine oq (aN rfl rfl) rfl (ak rfl rfl rfl) rfl rfl ?_
          refine oq (aN rfl rfl) rfl (ak rfl rfl rfl) rfl rfl ?_
          refine oq (aN rfl rfl) rfl (ak rfl rfl rfl) rfl rfl ?_
          first | refine oq (G_ rfl rfl rfl) rfl (ak rfl rfl rfl) rfl rfl ?_ | refine oq (o_ rfl rfl rfl) rfl (ak rfl rfl rfl) rfl rfl ?_
          refine oq (ay rfl rfl) rfl (ak rfl rfl rfl) rfl rfl ?_
          refine oq (iQ rfl rfl) rfl (ak rfl rfl rfl) rfl rfl ?_
          refine oq (Lr rfl rfl rfl) rfl (ak rfl rfl rfl) rfl rfl ?_
          refine agW (dG rfl rfl rfl) rfl ?_
          refine pq ?_
          refine W.bC rfl (fun c97=>?_) (fun c97=>?_)
          ·refine W.seq<|W.region rfl<|qm rfl rfl rfl<|qm rfl rfl rfl ?_
           refine ag3 rfl ?_
           refine ag2 rfl ?_
           refine qm rfl rfl rfl ?_
           refine cp (fun h' hE hL=>ab_ _ h' p k (by omega) (by omega)) ?_
           rw[←Vl hp]
           refine agb rfl rfl rfl<|pq ?_
           refine W.DR [(βn,.cells (nA (anj (dO ps 0) q n)) dL (0,0))] (n:=14) rfl ?_
           refine xq 0 (aN rfl rfl) rfl ?_
           refine xq 1 (aN rfl rfl) rfl ?_
           refine xq 2 (aN rfl rfl) rfl ?_
           refine xq 3 (aN rfl rfl) rfl ?_
           refine xq 4 (G_ rfl rfl rfl) rfl ?_
           refine xq 6 (aN rfl rfl) rfl ?_
           refine xq 7 (aN rfl rfl) rfl ?_
           refine xq 8 (G_ rfl rfl rfl) rfl ?_
           refine xq 9 (iQ rfl rfl) rfl ?_
           refine ae (i:=5) rfl an rfl rfl (ao2 (iQ rfl rfl) ?_)
           refine⟨.inr (Keeps.one (.tail _ (.head _)) Keeps.nil),?_⟩
           refine xq 10 (Zi rfl rfl rfl) rfl ?_
           refine xq 11 (G_ rfl rfl rfl) rfl ?_
           refine ae (i:=12) rfl an rfl rfl (eS rfl rfl rfl ?_)
           refine⟨.inr (Keeps.one (.tail _ (.head _)) Keeps.nil),?_⟩
           refine xq 13 (jS rfl rfl) rfl ?_
           refine az ?_
           refine dI<|aA<|W.region rfl<|qm rfl rfl rfl ?_
           refine ag1 rfl ?_
           refine agb rfl rfl rfl<|pq ?_
           have htk:P9 ps k i=true:=by rw[ht,decide_eq_true (show p.lo≤(k:Int) by omega),decide_eq_true (show(k:Int)≤p.hi by omega)];rfl
           refine⟨rfl,i+1,hil,by omega,⟨rfl,rfl,rfl,rfl,lk rfl (congrArg Value.bool (show true=_ by rw[anM,htk,decide_eq_true (show 0<anj (dO ps 0) q n k by omega)];simp)),rfl,rfl,rfl,rfl,rfl,trivial⟩,.eq ?_⟩
           rw[Ux]
           refine(eqc (congrArg uV ?_)).symm
           have e:=aoO (f:=anz ps (anj (dO ps 0) q n) k i) (v:=anz ps (anj (dO ps 0) q n) k i (gy ps i k)+anj (dO ps 0) q n k) SH
           rw[Int.natCast_add]at e
           exact e.trans (anD fun o _=>aoQ htk)
          ·refine W.skip<|dI<|aA<|W.region rfl<|qm rfl rfl rfl ?_
           refine ag1 rfl ?_
           refine agb rfl rfl rfl<|pq ?_
           have hno:anj (dO ps 0) q n k=0∨P9 ps k i=false:=by
            first
            | exact .inl (by omega)
            | exact .inr (by rw[ht,decide_eq_false (show¬p.lo≤(k:Int) by omega)];rfl)
            | exact .inr (by rw[ht,decide_eq_false (show¬(k:Int)≤p.hi by omega)];simp)
           refine⟨rfl,i+1,hil,by omega,⟨rfl,rfl,rfl,rfl,lk rfl (congrArg Value.bool (show _=_ by rw[anM];rcases hno with h | h <;>simp[h])),rfl,rfl,rfl,rfl,rfl,trivial⟩,.eq ?_⟩
           exact eqc (congrArg uV (anD fun o _=>an0 hno))
         ·refine Ops.no ?_
          refine Ops.no ?_
          refine Ops.no ?_
          refine Ops.no ?_
          refine Ops.no ?_
          refine Ops.no ?_
          refine Ops.no ?_
          refine agW (iH rfl rfl rfl) rfl ?_
          refine pq ?_
          refine W.bZ ?_
          refine W.skip<|dI<|aA<|W.region rfl<|qm rfl rfl rfl ?_
          refine ag1 rfl ?_
          refine agb rfl rfl rfl<|pq ?_
          have hno:anj (dO ps 0) q n k=0∨P9 ps k i=false:=by
           first
           | exact .inl (by omega)
           | exact .inr (by rw[ht,decide_eq_false (show¬p.lo≤(k:Int) by omega)];rfl)
           | exact .inr (by rw[ht,decide_eq_false (show¬(k:Int)≤p.hi by omega)];simp)
          refine⟨rfl,i+1,hil,by omega,⟨rfl,rfl,rfl,rfl,lk rfl (congrArg Value.bool (show _=_ by rw[anM];rcases hno with h | h <;>simp[h])),rfl,rfl,rfl,rfl,rfl,trivial⟩,.eq ?_⟩
          exact eqc (congrArg uV (anD fun o _=>an0 hno))
        ·refine Ops.no ?_
         refine Ops.no ?_
         refine Ops.no ?_
         refine Ops.no ?_
         refine Ops.no ?_
         refine Ops.no ?_
         refine Ops.no ?_
         refine agW (iH rfl rfl rfl) rfl ?_
         refine qm rfl rfl rfl ?_
         refine Ops.no ?_
         refine Ops.no ?_
         refine Ops.no ?_
         refine Ops.no ?_
         refine Ops.no ?_
         refine Ops.no ?_
         refine Ops.no ?_
         refine agW (iH rfl rfl rfl) rfl ?_
         refine pq ?_
         refine W.bZ ?_
         refine W.skip<|dI<|aA<|W.region rfl<|qm rfl rfl rfl ?_
         refine ag1 rfl ?_
         refine agb rfl rfl rfl<|pq ?_
         have hno:anj (dO ps 0) q n k=0∨P9 ps k i=false:=by
          first
          | exact .inl (by omega)
          | exact .inr (by rw[ht,decide_eq_false (show¬p.lo≤(k:Int) by omega)];rfl)
          | exact .inr (by rw[ht,decide_eq_false (show¬(k:Int)≤p.hi by omega)];simp)
         refine⟨rfl,i+1,hil,by omega,⟨rfl,rfl,rfl,rfl,lk rfl (congrArg Value.bool (show _=_ by rw[anM];rcases hno with h | h <;>simp[h])),rfl,rfl,rfl,rfl,rfl,trivial⟩,.eq ?_⟩
         exact eqc (congrArg uV (anD fun o _=>an0 hno))
       ·refine W.exit<|bP<|bP<|gG<|dI<|aA<|W.region rfl<|qm rfl rfl rfl ?_
        refine ag1 rfl ?_
        refine agb rfl rfl rfl<|pq ?_
        obtain rfl:i=ps.length:=by omega
        refine⟨rfl,k+1,Vq,by omega,⟨rfl,rfl,rfl,lk rfl (congrArg Value.bool aoR),rfl,rfl,rfl,rfl,rfl,trivial⟩,.eq ?_⟩
        exact eqc (congrArg uV (anD fun o _=>(aoz h4).symm))
     ·refine W.exit<|bP<|bP<|gG<|aA<|W.region rfl<|qm rfl rfl rfl<|agb rfl rfl rfl<|Ops.nil<|dI ?_
      refine aA<|W.region rfl<|qm rfl rfl rfl ?_
      refine ag1 rfl ?_
      refine agb rfl rfl rfl<|pq ?_
      obtain rfl:k=13:=by omega
      refine⟨rfl,n+1,ae_,by omega,by omega,⟨rfl,lk rfl (congrArg Value.bool (aoS h4 Dn)),lk rfl (congrArg (fun m:Nat=>(I m:Value)) aoF),rfl,rfl,rfl,rfl,trivial⟩,.cons (.skip rfl (.eq ?_))⟩
      exact eqc (qg fun e he=>(aoT he).symm)
    ·have hnw:n=14∨(n≤14∧dD (dO ps 0) n q=false):=by
      rcases Nat.lt_or_ge n 14 with h9 | h9
      ·refine .inr ⟨hn,Bool.eq_false_iff.2 fun hw=>?_⟩
       have:=amT.2 ⟨by omega,hw⟩
       rw[c42]at this;cases this
      ·exact .inl (by omega)
     have hcf:=aoL hps Dn hnw
     have hme:(fun e=>anB ps q n 0 e)=fun e=>anB ps q n 0 e:=rfl
     refine W.exit<|bP<|bP<|gG<|aA<|W.seq<|W.region rfl<|qm rfl rfl rfl<|qm rfl rfl rfl ?_
     refine c0 (fun h' hE hL=>aiH _ h' ps _ q (hsl.ext hE)) (fun v A' hv=>?_)
     obtain⟨w,S2,hv2,hw2,af4⟩:=hv
     rw[EnF,if_neg (by rw[UH hps (by omega) (by omega)];simp),Int.toNat_natCast]at hv2 hw2
     dsimp only at hv2 hw2
     subst hv2
     refine Ops.sb (F':=S2++[(akW,bsO (enB ps (Ah (dO ps 0) q)))]) (af4.app (.skip rfl (.eq (eqc (qg fun e he=>(ao1 Dn he hnw).symm))))) ?_
     refine qm rfl rfl rfl<|oq (bD rfl rfl rfl) rfl wn rfl rfl<|oq (bD rfl rfl rfl) rfl wn rfl rfl<|agb rfl rfl rfl<|agb rfl rfl rfl<|pq ?_
     refine JU hw2 (fun hz3 aiX aiY _=>?_)
     obtain⟨an,cn,rfl⟩:=aiY.dA
     rw[kT]at aiY⊢
     have apS:=hsl.ext aiX
     have hnl:=afn (f:=enB ps (Ah (dO ps 0) q))
     clear hw2
     refine W.seq<|W.region rfl<|qm rfl rfl rfl<|qm rfl rfl rfl ?_
     refine cp (fun h' hE hL=>Yy _ h' ps _ q (apS.ext hE)) ?_
     generalize hEF:qh ps q=EF at hcf⊢
     obtain⟨⟨e1,e2⟩,e3⟩:=EF
     dsimp only at hcf
     refine qm rfl rfl rfl<|oq (bD rfl rfl rfl) rfl wn rfl rfl<|oq (bD rfl rfl rfl) rfl wn rfl rfl<|agb rfl rfl rfl<|agb rfl rfl rfl<|pq<|W.seq ?_
     refine W.cut [(15,.slice an (qsL (enB ps (Ah (dO ps 0) q))).length cn),(7,V9 akW),(5,I q),(4,.slice a ps.length cap)] [(akW,bsO (enB ps (Ah (dO ps 0) q)))] ?_ ?_
     ·refine W.seq<|W.region rfl<|qm rfl rfl rfl ?_
      refine KU (nG rfl rfl rfl) (congrArg Value.bool (show decide ((0:Int)≠0)=false by decide)) rfl wn rfl rfl ?_
      refine qm rfl rfl rfl ?_
      refine oq (aN rfl rfl) rfl (ak rfl rfl rfl) rfl rfl ?_
      refine oq (aN rfl rfl) rfl (ak rfl rfl rfl) rfl rfl ?_
      refine Ops.RV (fun apW=>?_) (fun apW=>?_)
      ·refine oq (aN rfl rfl) rfl (ak rfl rfl rfl) rfl rfl ?_
       refine oq (nG rfl rfl rfl) rfl (ak rfl rfl rfl) rfl rfl ?_
       refine oq (aN rfl rfl) rfl (ak rfl rfl rfl) rfl rfl ?_
       refine Ops.ask (fun apX=>?_) (fun apX=>?_)
       ·refine Ops.no ?_
        refine Ops.no ?_
        refine oq (dG rfl rfl rfl) rfl (ak rfl rfl rfl) rfl rfl ?_
        refine oq (dG rfl rfl rfl) rfl (ak rfl rfl rfl) rfl rfl ?_
        refine agW (iH rfl rfl rfl) rfl ?_
        refine qm rfl rfl rfl ?_
        refine Ops.no ?_
        refine Ops.no ?_
        refine Ops.no ?_
        refine Ops.noU ?_
        refine Ops.noU ?_
        refine Ops.noU ?_
        refine Ops.noU ?_
        refine Ops.noU ?_
        refine Ops.noU ?_
        refine Ops.noU ?_
        refine Ops.no ?_
        refine agW (dG rfl rfl rfl) rfl ?_
        refine pq ?_
        refine W.dW ?_
        refine W.seq<|W.region rfl<|agb rfl rfl rfl<|pq<|W.ret ?_
        exfalso
        rcases hcf with⟨h1,h2,h3⟩ | ⟨h1,h2,h3⟩
        ·first | omega | (simp_all;done) | (simp_all;omega)
        ·first | omega | (simp_all;done) | (simp_all;omega)
       ·refine oq (aN rfl rfl) rfl (ak rfl rfl rfl) rfl rfl ?_
        refine oq (nG rfl rfl rfl) rfl (ak rfl rfl rfl) rfl rfl ?_
        refine oq (iH rfl rfl rfl) rfl (ak rfl rfl rfl) rfl rfl ?_
        refine oq (dG rfl rfl rfl) rfl (ak rfl rfl rfl) rfl rfl ?_
        refine agW (iH rfl rfl rfl) rfl ?_
        refine qm rfl rfl rfl ?_
        refine Ops.ask (fun aps=>?_) (fun aps=>?_)
        ·refine Ops.no ?_
         refine Ops.no ?_
         refine Ops.no ?_
         refine Ops.noU ?_
         refine Ops.noU ?_
         refine Ops.noU ?_
         refine Ops.noU ?_
         refine Ops.noU ?_
         refine Ops.noU ?_
         refine Ops.noU ?_
         refine Ops.no ?_
         refine agW (dG rfl rfl rfl) rfl ?_
         refine pq ?_
         refine W.dW ?_
         refine W.seq<|W.region rfl<|agb rfl rfl rfl<|pq<|W.ret ?_
         exfalso
         rcases hcf with⟨h1,h2,h3⟩ | ⟨h1,h2,h3⟩
         ·first | omega | (simp_all;done) | (simp_all;omega)
         ·first | omega | (simp_all;done) | (simp_all;omega)
        ·refine oq (aN rfl rfl) rfl (ak rfl rfl rfl) rfl rfl ?_
         refine oq (xU rfl rfl) rfl (ak rfl rfl rfl) rfl rfl ?_
         refine oq (aN rfl rfl) rfl (ak rfl rfl rfl) rfl rfl ?_
         refine Ops.RV (fun aoB=>?_) (fun aoB=>?_)
         ·refine oq (aN rfl rfl) rfl (ak rfl rfl rfl) rfl rfl ?_
          refine oq (nG rfl rfl rfl) rfl (ak rfl rfl rfl) rfl rfl ?_
          refine oq (aN rfl rfl) rfl (ak rfl rfl rfl) rfl rfl ?_
          refine Ops.ask (fun aoC=>?_) (fun aoC=>?_)
          ·refine Ops.no ?_
           refine Ops.no ?_
           refine Ops.no ?_
           refine oq (dG rfl rfl rfl) rfl (ak rfl rfl rfl) rfl rfl ?_
           refine oq (dG rfl rfl rfl) rfl (ak rfl rfl rfl) rfl rfl ?_
           refine agW (iH rfl rfl rfl) rfl ?_
           refine pq ?_
           refine W.dW ?_
           refine W.seq<|W.region rfl<|agb rfl rfl rfl<|pq<|W.ret ?_
           exfalso
           rcases hcf with⟨h1,h2,h3⟩ | ⟨h1,h2,h3⟩
           ·first | omega | (simp_all;done) | (simp_all;omega)
           ·first | omega | (simp_all;done) | (simp_all;omega)
          ·refine oq (aN rfl rfl) rfl (ak rfl rfl rfl) rfl rfl ?_
           refine oq (aN rfl rfl) rfl (ak rfl rfl rfl) rfl rfl ?_
           refine oq (nG rfl rfl rfl) rfl (ak rfl rfl rfl) rfl rfl ?_
           refine oq (iH rfl rfl rfl) rfl (ak rfl rfl rfl) rfl rfl ?_
           refine oq (dG rfl rfl rfl) rfl (ak rfl rfl rfl) rfl rfl ?_
           refine agW (iH rfl rfl rfl) rfl ?_
           refine pq ?_
           refine W.bC rfl (fun c154=>?_) (fun c154=>?_)
           ·refine W.seq<|W.region rfl<|agb rfl rfl rfl<|pq<|W.ret ?_
            exfalso
            rcases hcf with⟨h1,h2,h3⟩ | ⟨h1,h2,h3⟩
            ·first | omega | (simp_all;done) | (simp_all;omega)
            ·first | omega | (simp_all;done) | (simp_all;omega)
           ·refine W.skip ?_
            exact⟨rfl,rfl,⟨rfl,rfl,rfl,rfl,trivial⟩,.refl⟩
         ·refine Ops.no ?_
          refine Ops.no ?_
          refine Ops.no ?_
          refine Ops.noU ?_
          refine Ops.noU ?_
          refine Ops.noU ?_
          refine Ops.no ?_
          refine oq (iH rfl rfl rfl) rfl (ak rfl rfl rfl) rfl rfl ?_
          refine agW (iH rfl rfl rfl) rfl ?_
          refine pq ?_
          refine W.bZ ?_
          refine W.skip ?_
          exact⟨rfl,rfl,⟨rfl,rfl,rfl,rfl,trivial⟩,.refl⟩
      ·refine Ops.no ?_
       refine Ops.no ?_
       refine Ops.no ?_
       refine Ops.noU ?_
       refine Ops.noU ?_
       refine Ops.no ?_
       refine oq (iH rfl rfl rfl) rfl (ak rfl rfl rfl) rfl rfl ?_
       refine agW (iH rfl rfl rfl) rfl ?_
       refine qm rfl rfl rfl ?_
       refine oq (aN rfl rfl) rfl (ak rfl rfl rfl) rfl rfl ?_
       refine oq (xU rfl rfl) rfl (ak rfl rfl rfl) rfl rfl ?_
       refine oq (aN rfl rfl) rfl (ak rfl rfl rfl) rfl rfl ?_
       refine Ops.RV (fun aoB=>?_) (fun aoB=>?_)
       ·refine oq (aN rfl rfl) rfl (ak rfl rfl rfl) rfl rfl ?_
        refine oq (nG rfl rfl rfl) rfl (ak rfl rfl rfl) rfl rfl ?_
        refine oq (aN rfl rfl) rfl (ak rfl rfl rfl) rfl rfl ?_
        refine Ops.ask (fun aoC=>?_) (fun aoC=>?_)
        ·refine Ops.no ?_
         refine Ops.no ?_
         refine Ops.no ?_
         refine oq (dG rfl rfl rfl) rfl (ak rfl rfl rfl) rfl rfl ?_
         refine oq (dG rfl rfl rfl) rfl (ak rfl rfl rfl) rfl rfl ?_
         refine agW (iH rfl rfl rfl) rfl ?_
         refine pq ?_
         refine W.dW ?_
         refine W.seq<|W.region rfl<|agb rfl rfl rfl<|pq<|W.ret ?_
         exfalso
         rcases hcf with⟨h1,h2,h3⟩ | ⟨h1,h2,h3⟩
         ·first | omega | (simp_all;done) | (simp_all;omega)
         ·first | omega | (simp_all;done) | (simp_all;omega)
        ·refine oq (aN rfl rfl) rfl (ak rfl rfl rfl) rfl rfl ?_
         refine oq (aN rfl rfl) rfl (ak rfl rfl rfl) rfl rfl ?_
         refine oq (nG rfl rfl rfl) rfl (ak rfl rfl rfl) rfl rfl ?_
         refine oq (iH rfl rfl rfl) rfl (ak rfl rfl rfl) rfl rfl ?_
         refine oq (dG rfl rfl rfl) rfl (ak rfl rfl rfl) rfl rfl ?_
         refine agW (iH rfl rfl rfl) rfl ?_
         refine pq ?_
         refine W.bC rfl (fun c154=>?_) (fun c154=>?_)
         ·refine W.seq<|W.region rfl<|agb rfl rfl rfl<|pq<|W.ret ?_
          exfalso
          rcases hcf with⟨h1,h2,h3⟩ | ⟨h1,h2,h3⟩
          ·first | omega | (simp_all;done) | (simp_all;omega)
          ·first | omega | (simp_all;done) | (simp_all;omega)
         ·refine W.skip ?_
          exact⟨rfl,rfl,⟨rfl,rfl,rfl,rfl,trivial⟩,.refl⟩
       ·refine Ops.no ?_
        refine Ops.no ?_
        refine Ops.no ?_
        refine Ops.noU ?_
        refine Ops.noU ?_
        refine Ops.noU ?_
        refine Ops.no ?_
        refine oq (iH rfl rfl rfl) rfl (ak rfl rfl rfl) rfl rfl ?_
        refine agW (iH rfl rfl rfl) rfl ?_
        refine pq ?_
        refine W.bZ ?_
        refine W.skip ?_
        exact⟨rfl,rfl,⟨rfl,rfl,rfl,rfl,trivial⟩,.refl⟩
     ·refine W.seq<|W.region rfl<|agb rfl rfl rfl<|pq<|W.seq<|W.seq<|W.region rfl<|agb rfl rfl rfl<|Ops.nil ?_
      refine aA<|W.block ?_
      refine W.loop (σ:=Nat) (fun k=>k≤13) (fun k=>[(20,I k),(19,I ((List.range k).filter (enB ps (Ah (dO ps 0) q))).length),(15,.slice an (qsL (enB ps (Ah (dO ps 0) q))).length cn),(7,V9 akW),(5,I q),(4,.slice a ps.length cap)])
       (fun _=>[(akW,bsO (enB ps (Ah (dO ps 0) q)))]) (fun k=>13-k) 0 (Nat.zero_le _) ⟨rfl,rfl,rfl,rfl,rfl,rfl,trivial⟩ .refl ?_
      rintro k hk
      refine W.seq<|W.seq<|W.region rfl<|qm rfl rfl rfl ?_
      refine agW (Lr rfl rfl rfl) rfl ?_
      refine pq ?_
      refine W.bC rfl (fun c156=>?_) (fun c156=>?_)
      ·have Vq:k<13:=by omega
       have hx:(bA (enB ps (Ah (dO ps 0) q)))[0+k*1]? =some (.bool (enB ps (Ah (dO ps 0) q) k)):=by rw[show 0+k*1=k by omega];exact L9 Vq
       have hfn:((List.range k).filter (enB ps (Ah (dO ps 0) q))).length≤k:=Nat.le_trans (List.length_filter_le ..) (by simp)
       refine W.skip<|aA<|W.seq<|W.block<|W.seq<|W.region rfl<|qm rfl rfl rfl<|qm rfl rfl rfl ?_
       refine ag3 rfl ?_
       refine agX rfl ?_
       refine pq ?_
       refine W.cond rfl (fun c162=>?_) (fun c162=>?_)
       ·obtain⟨hqa,RF⟩:=aoV Vq c162
        obtain⟨bo,aiK,co,Eo,fzo,hvo,hbo,-,-,hzo⟩:=aiY.at (show(zs (qsL (enB ps (Ah (dO ps 0) q))))[((List.range k).filter (enB ps (Ah (dO ps 0) q))).length]? =some (k:Int) by rw[zs,List.getElem?_map,hqa];rfl)
        cases hvo
        have hco:co[aiK+((List.range k).filter (enB ps (Ah (dO ps 0) q))).length*1]? =some (I k):=hzo 0 (by decide)
        refine W.seq<|W.seq<|W.region rfl<|qm rfl rfl rfl<|qm rfl rfl rfl ?_
        refine agW (dM rfl rfl) rfl ?_
        refine KU (IJ rfl rfl rfl) (congrArg Value.bool (decide_eq_false (by omega))) rfl wn rfl rfl ?_
        refine qm rfl rfl rfl ?_
        refine oq (aN rfl rfl) rfl (ak rfl rfl rfl) rfl rfl ?_
        refine oq (aN rfl rfl) rfl (ak rfl rfl rfl) rfl rfl ?_
        first | refine oq (G_ rfl rfl rfl) rfl (ak rfl rfl rfl) rfl rfl ?_ | refine oq (o_ rfl rfl rfl) rfl (ak rfl rfl rfl) rfl rfl ?_
        refine oq (iQ rfl rfl) rfl (ak rfl rfl rfl) rfl rfl ?_
        refine oq (aN rfl rfl) rfl (ak rfl rfl rfl) rfl rfl ?_
        refine KU (nG rfl rfl rfl) (congrArg Value.bool (show decide ((k:Int)≠k)=false by simp)) rfl (ak rfl rfl rfl) rfl rfl ?_
        refine agW (iH rfl rfl rfl) rfl ?_
        refine pq ?_
        refine W.bZ ?_
        refine W.skip<|aA<|W.region rfl<|qm rfl rfl rfl ?_
        refine ag1 rfl ?_
        refine agb rfl rfl rfl<|Ops.nil<|dI<|aA<|W.region rfl<|qm rfl rfl rfl ?_
        refine ag1 rfl ?_
        refine agb rfl rfl rfl<|pq ?_
        exact⟨rfl,k+1,Vq,by omega,⟨rfl,lk rfl (congrArg (Value.int .i64) (show(((List.range k).filter (enB ps (Ah (dO ps 0) q))).length:Int)+1=(((List.range (k+1)).filter (enB ps (Ah (dO ps 0) q))).length:Nat) by rw[List.range_succ,List.filter_append,List.length_append,List.filter_cons,if_pos c162];simp)),rfl,rfl,rfl,rfl,trivial⟩,.refl⟩
       ·refine W.skip<|dI<|aA<|W.region rfl<|qm rfl rfl rfl ?_
        refine ag1 rfl ?_
        refine agb rfl rfl rfl<|pq ?_
        exact⟨rfl,k+1,Vq,by omega,⟨rfl,lk rfl (congrArg (Value.int .i64) (show(((List.range k).filter (enB ps (Ah (dO ps 0) q))).length:Int)=(((List.range (k+1)).filter (enB ps (Ah (dO ps 0) q))).length:Nat) by rw[List.range_succ,List.filter_append,List.length_append,List.filter_cons,if_neg (by simpa using c162)];simp)),rfl,rfl,rfl,rfl,trivial⟩,.refl⟩
      ·obtain rfl:k=13:=by omega
       refine W.exit<|bP<|bP<|gG<|aA<|W.seq<|W.region rfl<|qm rfl rfl rfl<|qm rfl rfl rfl ?_
       refine agW (dM rfl rfl) rfl ?_
       refine KU (nG rfl rfl rfl) (congrArg Value.bool (show decide ((((List.range 13).filter (enB ps (Ah (dO ps 0) q))).length:Int)≠((qsL (enB ps (Ah (dO ps 0) q))).length:Int))=false by simp[qsL])) rfl wn rfl rfl ?_
       refine pq ?_
       refine W.bZ ?_
       refine W.skip<|dI<|aA<|W.region rfl<|qm rfl rfl rfl ?_
       refine ag1 rfl ?_
       refine agb rfl rfl rfl<|pq ?_
       exact⟨rfl,q+1,Dn,by omega,⟨rfl,rfl,trivial⟩,.skip rfl .refl⟩
  ·refine W.exit<|bP<|bP<|gG<|aA<|W.seq<|W.region rfl ?_
   refine cp (fun h' hE hL=>VW _ h' hS hmb _ _ (hE.1 _ _ hgz)) ?_
   refine agb rfl rfl rfl<|pq<|W.ret ?_
   exact lvq rfl
end Go.aS

/- SyrupEnd's card. Conditions: as the card says; over the given program. -/
namespace Go.Proofs.YtkkdgffaohidnaaGreatDoor
open Go Go.aS
set_option maxRecDepth 100000
set_option maxHeartbeats 4000000
theorem aob:joinedFacts prog ant anu Rows.syrupEndSpec Rows.syrupEndRow=true:=by
 unfold joinedFacts
 repeat' with_reducible refine Bool.and_eq_true_iff.2 ⟨?_,?_⟩
 all_goals first
  | with_reducible exact aci
  | (with_reducible refine makeT ?_;kernel_rfl)
  | (with_reducible refine aeb ?_;kernel_rfl)
  | (as_aux_lemma=>kernel_rfl)
theorem anL:prog.funcNamed Rows.syrupEndRow.func=some ant:=by kernel_rfl
theorem aof:prog.mainIs=some (true, "dbc29bbb9727fbebaf7429f7266f9d82b5a02ec0969210b724e1ed2dac66cc8d".toList):=ad9
theorem aog:true=Rows.syrupEndRow.goesBy prog:=by kernel_rfl
theorem aoc:true=prog.looks []:=by kernel_rfl
theorem aoo:Rows.SyrupEndSaid:=
 OpenClaim.holds_of_wide_leaving_time ant anu rfl rfl rfl rfl rfl rfl rfl ⟨rfl,rfl,rfl,rfl,rfl⟩ rfl rfl rfl rfl rfl anL anv aob
  (of_decide_eq_true (by kernel_rfl)) (by unfold Func.isWrapper;first | (rw[if_pos (by decide+kernel)];kernel_rfl) | (rw[if_neg (by decide+kernel)];exact⟨rfl,rfl⟩))
  (
   fun os started H enc _ F=>ad7 (s:=Rows.syrupEndSpec) os started H enc anv (by kernel_rfl) (by kernel_rfl) (by kernel_rfl) (by kernel_rfl) (by kernel_rfl) rfl (fun _=>rfl)
   (OB (enc:=enc) (C:=Tryz.checked) (os:=os) (X:=fun w _=>laidMetH prog J9 w) (laidWorld os) #[.slice none 0 0] 8 rfl (by kernel_rfl) (by kernel_rfl) (by kernel_rfl) (by kernel_rfl) (by kernel_rfl) (laidWorld_met os _))
   (fun main hS hmb h nums lv Eg zg hl hg z0=>aon main hS hmb h nums lv Eg zg hl hg z0) F)

theorem SyrupEnd_card:Rows.SyrupEndCardSaid:=
 VZ .later [] [.handle] true (true, "dbc29bbb9727fbebaf7429f7266f9d82b5a02ec0969210b724e1ed2dac66cc8d") true
  aoo (fun _ h=>by cases h) (by kernel_rfl) (fun _ h=>by cases h) syrupEnd_row_tie rfl ⟨rfl,rfl⟩ aof rfl
  (
   fun f fn hf hfn=>by
   obtain rfl:f=ant:=(Option.some.inj (anL.symm.trans hf)).symm
   obtain rfl:fn=anu:=(Option.some.inj (anv.symm.trans hfn)).symm
   exact⟨aoc,fun j t ht=>by
    rw[show(anu).params= #[nS] by kernel_rfl]at ht
    have h3:t=nS:=by
     rcases j with _ | j
     ·simpa using ht.symm
     ·simp at ht
    subst h3
    exact(show prog.wantsStandIn nS=false by kernel_rfl)⟩)
  aog
#print axioms SyrupEnd_card
end Go.Proofs.YtkkdgffaohidnaaGreatDoor
