/- What is reached in so many steps, as the laws find it. Conditions: none; no program in sight. (And 64 texts more.) -/
import Derived.Test.YtkkdgffaohidnaaGreatDoorR10
import Derived.Test.YtkkdgffaohidnaaGreatDoorR13
import Derived.Test.YtkkdgffaohidnaaGreatDoorR11
import Derived.Test.YtkkdgffaohidnaaGreatDoorR12
import Derived.Test.YtkkdgffaohidnaaGreatDoorR09
import Derived.Test.YtkkdgffaohidnaaGreatDoorR07
set_option linter.unusedVariables false
set_option linter.unusedSimpArgs false
set_option linter.unusedSectionVars false

/- What is reached in so many steps, as the laws find it. Conditions: none; no program in sight. -/
namespace Go.aS
set_option linter.unusedVariables false
theorem YU{ps:List Pn}{q o:Nat}{v:List Nat}(hq:q<13)(h:qJ (dO ps 0) q v o):o<13:=by
 rcases List.eq_nil_or_concat v with rfl | ⟨r,p,rfl⟩
 ·have:q=o:=h
  omega
 ·rw[List.concat_eq_append]at h
  obtain⟨m,_,h6⟩:=lW.1 h
  exact F9 _ _ _ h6
end Go.aS

/- Operations that come up in any order and only add to what is owned. Conditions: none; over any program. -/
namespace Go.aS
abbrev Spc:=Nat×Nat×(Value→ah→Prop)
def waits(ops:Array Oper):Nat→Nat→Nat→Bool
 | 0,_,_=>false
 | n+1,k,b=>match ops[k]? with | some o=>o.after.any fun e=>iG e&&(Nat.beq e.on b|| waits ops n e.on b) | none=>false
structure Y4(ops:Array Oper)(listed:Nat)(B:List Nat):Prop where
 cl:Closed ops listed
 low:∀k o,ops[k]? =some o→∀e∈o.after,iG e=true→e.on<k
 or:∀k,k<ops.size→listed.testBit k=false→k∈B∨∀b∈B,waits ops 6 k b=true
 un:∀b∈B,b<ops.size∧listed.testBit b=false
 nd:B.Nodup

theorem Y4.some{ops:Array Oper}{listed:Nat}{B:List Nat}(h:Y4 ops listed B){b:Nat}(hb:b∈B):qx ops listed≠[]:=by
 have key:∀(n k:Nat),k<n→k<ops.size→listed.testBit k=false→∃i,Fq ops listed i=true:=by
  intro n
  induction n with
  | zero=>intro k hk;omega
  | succ n ih=>
   intro k hk hlt hl
   by_cases hr:Fq ops listed k=true
   ·exact⟨k,hr⟩
   ·simp only[Fq,Array.getElem?_eq_getElem hlt,hl,Bool.not_false,Bool.true_and,Array.all_eq_true_iff_forall_mem,Bool.or_eq_true,Bool.not_eq_true']at hr
    have:∃e∈(ops[k]).after,iG e=true∧listed.testBit e.on=false:=by
     refine Classical.byContradiction fun hn=>hr fun e he=>?_
     cases hbe:iG e with
     | false=>exact .inl rfl
     | true=>
      cases ht:listed.testBit e.on with
      | true=>exact .inr rfl
      | false=>exact absurd ⟨e,he,hbe,ht⟩ hn
    obtain⟨e,he,h1,h2⟩:=this
    have:=h.low k _ (Array.getElem?_eq_getElem hlt) e he h1
    exact ih e.on (by omega) (by omega) h2
 obtain⟨i,hi⟩:=key (b+1) b (by omega) (h.un b hb).1 (h.un b hb).2
 intro e
 have:=o8.2 hi
 rw[e]at this
 cases this

theorem Y4.step{ops:Array Oper}{listed j:Nat}{B1 B2:List Nat}(h:Y4 ops listed (B1++j::B2))(hj:Fq ops listed j=true):Y4 ops (listed||| 2 ^ j) (B1++B2):=by
 have hnd:j∉B1++B2:=by
  have:=(List.perm_middle (a:=j) (l₁:=B1) (l₂:=B2)).nodup_iff.1 h.nd
  exact(List.nodup_cons.1 this).1
 refine⟨h.cl.step hj,h.low,fun k hk hl=>?_,fun b hb=>?_,?_⟩
 ·rw[testBit_or,Bool.or_eq_false_iff]at hl
  have hne:j≠k:=by simpa using hl.2
  rcases h.or k hk hl.1 with h' | h'
  ·left
   rcases List.mem_append.1 h' with h' | h'
   ·exact List.mem_append_left _ h'
   ·rcases List.mem_cons.1 h' with h' | h'
    ·exact absurd h'.symm hne
    ·exact List.mem_append_right _ h'
  ·right
   intro b hb
   refine h' b ?_
   rcases List.mem_append.1 hb with hb | hb
   ·exact List.mem_append_left _ hb
   ·exact List.mem_append_right _ (List.mem_cons_of_mem _ hb)
 ·have hb':b∈B1++j::B2:=by
   rcases List.mem_append.1 hb with hb | hb
   ·exact List.mem_append_left _ hb
   ·exact List.mem_append_right _ (List.mem_cons_of_mem _ hb)
  refine⟨(h.un b hb').1,?_⟩
  rw[testBit_or,(h.un b hb').2,Bool.false_or,decide_eq_false_iff_not]
  rintro rfl
  exact hnd hb
 ·have:=(List.perm_middle (a:=j) (l₁:=B1) (l₂:=B2)).nodup_iff.1 h.nd
  exact(List.nodup_cons.1 this).2

def Adds(x:Cx)(ops:Array Oper)(ε:Ev)(s:Spc):Prop:=
 ∃o,ops[s.1]? =some o∧o.dst=some s.2.1∧d_ o.dst x.n=true∧(∀c,o.op≠ .defer c)∧o.guard=none∧∀e,Cons ε e→∀F,Dx x o e F fun v F'=>∃A Lp,Lp.Perm F'∧s.2.2 v A∧Lp=A++F

theorem Cons.back{ε:Ev}{d:Nat}{v:Value}{e:Operand→Value}(h:Cons (upd ε (some d) v) e)(hd:ε d=none):Cons ε e:=fun y u hy=>h y u (by
 cases y with
 | tmp t=>
  simp only[UK,upd]at hy⊢
  cases hb:Nat.beq t d with
  | true=>rw[Nat.eq_of_beq_eq_true hb,hd]at hy;cases hy
  | false=>exact hy
 | _=>exact hy)

section rules
variable{x:Cx}{Q:Post}{ρ:Env}{ds:List Deferred}{F:ah}{ops:Array Oper}{L:ah}{fuel listed:Nat}
theorem Adds.of{i d:Nat}{P:Value→ah→Prop}{op:Op}{ty:TypeId}{pos:String}{bK:Array Edge}(ho:cO ops.toList i=some ⟨some d,op,ty,pos,bK,none⟩)(hd:Nat.blt d x.n=true)(hn:cu op=true)(H:∀F,Ef x ρ ⟨some d,op,ty,pos,bK,none⟩ F fun v F'=>∃A,P v A∧F'=A++F):Adds x ops (look ρ) (i,d,P):=
 ⟨_,aU ho,rfl,hd,gI hn,rfl,fun e he F=>(H F e fun y v hy=>he y v (by rw[DC];exact hy)).mono fun v F' ⟨Lp,p,A,hv,e⟩=>⟨A,Lp,p,hv,e⟩⟩
theorem Adds.call{i d f:Nat}{P:Value→ah→Prop}{args:List Operand}{ts:Array TypeId}{vs:List Value}{ty:TypeId}{pos:String}{bK:Array Edge}(H:∀h',Ext x.h h'→dV x.P x.main f vs.toArray h' [] P)(ho:cO ops.toList i=some ⟨some d,.call ⟨.value (.func f),args.toArray,ts⟩,ty,pos,bK,none⟩:=by rfl)[FB x.P f](hv:evs ρ args=some vs:=by rfl)(hd:Nat.blt d x.n=true:=by rfl):Adds x ops (look ρ) (i,d,P):=
 .of ho hd rfl fun F=>lQ rfl hv (fun h' hE _=>H h' hE) fun v A' hv=>⟨A',hv,rfl⟩
end rules
end Go.aS
namespace Go.aS
section
variable{α:Type}{row:α→List Value}{w:Nat}[rw':Rw row w]
section
variable{x:Cx}{ρ:Env}{F:ah}{o:Oper}{R:Value→ah→Prop}
end
end
section
variable{x:Cx}{S:ah→Prop}{ρ:Env}{o:Oper}
end
end Go.aS
namespace Go.aS
section
variable{x:Cx}{Q:Post}{ρ:Env}{ds:List Deferred}{ops:Array Oper}{G:ah}{y₁ y₂ y₃ y₄ agp agq:Nat×Obj}{id n:Nat}
end
end Go.aS
namespace Go.aS
end Go.aS

/- Slices of slices; makeSlice. Conditions: none; over any program. -/
namespace Go.aS
structure Sv where
  a:Option Addr
  n:Nat
  cap:Nat
abbrev Sv.val(s:Sv):Value:=.slice s.a s.n s.cap
section
variable{α:Type}{row:α→List Value}{w:Nat}[rw':Rw row w]{E:TypeId}
inductive UG(E:TypeId)(row:α→List Value)[Rw row w]:List Sv→List (List α)→ah→Prop
  | nil:UG E row [] [] []
  | cons {s:Sv} {l:List α} {A B:ah} {vs:List Sv} {ls:List (List α)}:Os E row s.val l A→UG E row vs ls B→UG E row (s::vs) (l::ls) (A++B)
theorem UG.len{vs:List Sv}{ls:List (List α)}{A:ah}(h:UG E row vs ls A):vs.length=ls.length:=by
  induction h with
  | nil=>rfl
  | cons _ _ ih=>simp[ih]
theorem UG.shut{vs:List Sv}{ls:List (List α)}{A:ah}(h:UG E row vs ls A):Shut A:=by
  induction h with
  | nil=>exact .nil
  | cons h _ ih=>exact h.shut.app ih
theorem UG.sl{vs:List Sv}{ls:List (List α)}{A:ah}{h':Hp}(h:UG E row vs ls A)(hL:∀b o,(b,o)∈A→h' b=some o):∀{k:Nat} {s:Sv} {l:List α},vs[k]? =some s→ls[k]? =some l→Sl h' row s.val l:=by
  induction h with
  | nil=>intro k s l hs;simp at hs
  | cons h1 _ ih=>
    intro k s l hs hl
    rcases k with _ | k
    · simp at hs hl;subst hs hl
      exact h1.sl fun b o hb=>hL b o (List.mem_append_left _ hb)
    · simp at hs hl
      exact ih (fun b o hb=>hL b o (List.mem_append_right _ hb)) hs hl
end
/-! makeSlice -/
section
variable{x:Cx}{ρ:Env}{F:ah}{o:Oper}{R:Value→ah→Prop}
theorem G8{t E by' n:Nat}{z:Value}{y y':Operand}(ho:o.op= .makeSlice t y y')[TD x.P t (.slice E)][TI x.P E 1 by' z #[z]](hy:ev ρ y=some (.int .i64 (n:Int)))(hy':ev ρ y'=some (.int .i64 (n:Int)))(hb:by'*n≤2 ^ 48∧n≤1000000)
    (K:∀β,R (.slice (some ⟨β,0,none⟩) n n) ((β,.cells (List.replicate n z).toArray E (0,0))::F)):Ef x ρ o F R:=
  Ef.xW fun e he h' hE=>by
    obtain⟨j,hj,hj1,hj2,hj3,hj4⟩:=TI.out (inferInstance:TI x.P E 1 by' z #[z])
    have hw:IntKind.i64.wrap (n:Int)=n:=nC (by omega) (by omega)
    have c1:¬((n:Int)<0):=by omega
    have c2:¬((by':Int)*(n:Int)>2 ^ 48):=by
                                                         have:((by'*n:Nat):Int)≤2 ^ 48:=by exact_mod_cast hb.1
                                                         rw[Int.natCast_mul]at this;omega
    have c3:¬((n:Int)>n):=by omega
    simp only[execOp,ho,he y _ hy,he y' _ hy',Instr.makeSlice,asInt,asIntOf,bind_eq,au,bind_assoc,bind_pure,aC,dJ hj,hj2,hw]
    simp only[c1,c2,c3,decide_false,Bool.or_false,Bool.false_eq_true,if_false]
    have room:∀{β:Type} {f:Unit→Sem β} {Q':β→ah→Prop},tr x.P h' (f ()) F Q'→tr x.P h' ((askRoom (((n:Int).toNat)*by')).bind f) F Q':=by
      intro β f Q' H
      unfold askRoom
      split
      · exact⟨rfl,H⟩
      · exact H
    refine bJ (room ?_)
    simp only[dH,Int.toNat_natCast,Nat.mul_one]
    have harr:(Array.range n).map (fun i=>(#[z]:Array Value)[i % (#[z]:Array Value).size]!)=(List.replicate n z).toArray:=by
      apply Array.ext
      · simp
      · intro i h1 h2
        simp[Nat.mod_one]
    by_cases h0:n=0
    · subst h0
      have e0:(Array.range 0).map (fun x=>(#[]:Array Value)[x % (#[]:Array Value).size]!)=(List.replicate 0 z).toArray:=by simp
      simp only[if_true,newRow,bind_eq,au,bind_assoc,bind_pure,e0]
      exact wI fun r h1 h2=>⟨_,.inl rfl,K r⟩
    · simp only[if_neg h0,fG,hj4,newRow,bind_eq,au,bind_assoc,bind_pure,harr]
      exact wI fun r h1 h2=>⟨_,.inl rfl,K r⟩
end
end Go.aS

/- Sets of qualities, as the laws keep them. Conditions: none; over the given program. -/
namespace Go.aS
set_option maxRecDepth 100000
set_option maxHeartbeats 4000000
abbrev V9(β:Nat):Value:=.slice (some ⟨β,0,none⟩) 13 13
abbrev bsO(f:Nat→Bool):Obj:=.cells (bA f) RS (0,0)
end Go.aS

/- SyrupLongest. Conditions: none; over the given program. -/
namespace Go.aS
set_option maxRecDepth 100000
set_option maxHeartbeats 4000000
end Go.aS

/- What goes round for ever comes to a ring. Conditions: none; no program in sight. -/
namespace Go.aS
set_option linter.unusedVariables false
end Go.aS

/- All ways of so many steps; the first of them. Conditions: none; no program in sight. -/
namespace Go.aS
set_option linter.unusedVariables false
def af7(m:Nat):Nat→List (List Nat)
 | 0=>[[]]
 | k+1=>(af7 m k).flatMap fun l=>(List.range m).map fun y=>l++[y]
end Go.aS

/- All lists of so many numbers, as a program makes them; all ascending ones. Conditions: none; no program in sight. -/
namespace Go.aS
set_option linter.unusedVariables false
def af9(g:List Int)(y:Nat):List (List Int):=(List.range y).map fun(y:Nat)=>g++[(y:Int)]
def afb(m:Nat)(H:List (List Int))(x:Nat):List (List Int):=(H.take x).flatMap fun g=>af9 g m
def aff(m:Nat):Nat→List (List Int)
 | 0=>[[]]
 | k+1=>afb m (aff m k) (aff m k).length
theorem afL{m:Nat}:∀{k:Nat},aff m k=(af7 m k).map zs
 | 0=>rfl
 | k+1=>by
  rw[aff,afb,List.take_length,afL,af7,List.flatMap_map,List.map_flatMap]
  refine congrArg (fun f=>List.flatMap f _) (funext fun l=>?_)
  rw[af9,List.map_map]
  exact List.map_congr_left fun y _=>by simp[zs]
end Go.aS

/- All lists of so many numbers. Conditions: none; over the given program. -/
namespace Go.aS
set_option maxRecDepth 100000
set_option maxHeartbeats 4000000
end Go.aS

/- Ways, as the laws make them. Conditions: none; over the given program. -/
namespace Go.aS
set_option maxRecDepth 100000
set_option maxHeartbeats 4000000
theorem UG.filter{α:Type}{row:α→List Value}{k:Nat}[Rw row k]{E:TypeId}{vs:List Sv}{ls:List (List α)}{A:ah}(h:UG E row vs ls A)(P:List α→Bool):∃B,UG E row (((vs.zip ls).filter fun x=>P x.2).map (·.1)) (ls.filter P) B∧Sb B A:=by
 induction h with
 | nil=>exact⟨[],.nil,.refl⟩
 | @cons s l A B vs ls h1 h2 ih=>
  obtain⟨C,h3,h4⟩:=ih
  rw[List.zip_cons_cons,List.filter_cons,List.filter_cons]
  cases hP:P l
  ·exact⟨C,by simpa[hP]using h3,h4.left h1.shut⟩
  ·exact⟨A++C,by simpa[hP]using UG.cons h1 h3,Sb.app .refl h4⟩
end Go.aS

/- Comparing truth values. Conditions: none; over any program. -/
namespace Go.aS
section
variable{x:Cx}{ρ:Env}{S:ah→Prop}{o:Oper}{v:Value}
end
end Go.aS

/- Shut blocks are put by. Conditions: none; over any program. -/
namespace Go.aS
theorem W.cut{x:Cx}{c c2:Code}{Q:Post}{ρ:Env}{ds:List Deferred}{F:ah}(L:Env)(G:ah)(H:W x c (fun e ρ' ds' F'=>e= .normal∧ds'=ds∧Sub L ρ'∧Sb G F') ρ ds F)(K:W x c2 Q L ds G):W x c (thn (fun ρ' ds' F'=>W x c2 Q ρ' ds' F') Q) ρ ds F:=
 W.mono H fun e ρ' ds' F' h=>by
  obtain⟨he,hd,hs,hb⟩:=h
  subst he hd
  exact aA (W.env hs (W.sb hb K))
end Go.aS

/- SyrupRing. Conditions: none; over the given program. -/
namespace Go.aS
set_option maxRecDepth 100000
set_option maxHeartbeats 4000000
end Go.aS

/- From where syrups go round for ever: the list. Conditions: none; over the given program. -/
namespace Go.aS
set_option maxRecDepth 100000
set_option maxHeartbeats 4000000
def qsL(f:Nat→Bool):List Nat:=(List.range 13).filter f
theorem afn{f:Nat→Bool}:(qsL f).length≤13:=Nat.le_trans (List.length_filter_le ..) (by simp)
theorem ae1(main:Side)(h:Hp)(f:Nat→Bool):dV prog main aaV #[.agg (bA f)] h [] (fun v A=>∃S,Os dL fH v (zs (qsL f)) S∧Sb S A):=by
 refine dV.aG aa2 rfl (by show 1≤18;decide) [(0,.agg (bA f))] ⟨rfl,trivial⟩ ?_
 have hsz:(bA f).size=13:=nX
 have hon:ones (bA f).toList=true:=Un
 refine W.seq<|W.region rfl ?_
 refine Ops.box (cs:=bA f) (fun β1=>?_)
 refine agb rfl rfl rfl<|pq<|W.seq<|W.region rfl<|agb rfl rfl rfl<|pq<|W.seq<|W.seq ?_
 refine W.region rfl ?_
 refine ag2 rfl ?_
 refine qm rfl rfl rfl<|pq<|W.block ?_
 refine W.Js (fun(k:Nat) (v:Value) (S:ah)=>k≤13∧Os dL fH v (zs ((List.range k).filter f)) S) (fun k v S=>[(7,I k),(6,.agg (bA f)),(3,v),(1,.pointer (some ⟨β1,0,none⟩))]) (fun k v S=>S++[(β1,.cells (bA f) aP (0,0))]) (fun k _ _=>13-k) 0 (.slice none 0 0) [] ⟨Nat.zero_le _,.nil .nil⟩ ⟨rfl,rfl,rfl,rfl,trivial⟩ .refl ?_
 rintro k v S ⟨hk,hS⟩
 refine W.seq<|W.region rfl ?_
 refine agW (fO rfl rfl rfl) rfl ?_
 refine pq<|W.seq ?_
 refine W.bC rfl (fun c8=>?_) (fun c8=>?_)
 ·have Vq:k<13:=by omega
  have hlen:(zs ((List.range k).filter f)).length≤13:=by rw[kT];exact Nat.le_trans (List.length_filter_le ..) (by simp;omega)
  refine W.skip<|aA<|W.seq<|W.block<|W.seq<|W.region rfl<|qm rfl rfl rfl ?_
  refine agW (Ti (n:=k) (v:=.bool (f k)) rfl rfl rfl (by omega) (by omega) (by rw[Int.toNat_natCast,Nat.mul_one];exact L9 Vq)) rfl ?_
  refine agb rfl rfl rfl<|agb rfl rfl rfl<|pq<|W.seq<|W.region rfl<|qm rfl rfl rfl<|pq ?_
  refine W.cond rfl (fun c11=>?_) (fun c11=>?_)
  ·refine W.region rfl<|qm rfl rfl rfl<|qm rfl rfl rfl ?_
   refine Ops.NK (cs:= #[I k]) (fun aht=>?_) rfl
   refine oe rfl wn rfl rfl (iW (row:=fH) (l':=[(k:Int)]) rfl rfl rfl hS (.tail .head) (fun h2 _ hl=>Sl.mk (hl aht _ (.head _)) rfl (Part.all [I k])) (by simp;omega) (by decide) rfl (fun v' S' hS'=>?_))
   refine agb rfl rfl rfl<|Ops.nil<|dI<|aA<|W.region rfl ?_
   refine ag1 rfl ?_
   refine qm rfl rfl rfl<|pq ?_
   exact⟨rfl,k+1,v',S',⟨by omega,by rw[List.range_succ,List.filter_append,X3];simpa[zs,c11]using hS'⟩,by omega,⟨rfl,rfl,rfl,rfl,trivial⟩,.skip rfl .refl⟩
  ·refine W.skip<|dI<|aA<|W.region rfl ?_
   refine ag1 rfl ?_
   refine qm rfl rfl rfl<|pq ?_
   exact⟨rfl,k+1,v,S,⟨by omega,by rw[List.range_succ,List.filter_append,X3];simpa[zs,c11]using hS⟩,by omega,⟨rfl,rfl,rfl,rfl,trivial⟩,.refl⟩
 ·refine W.exit<|bP<|bP<|gG<|aA<|W.seq<|W.region rfl<|qm rfl rfl rfl<|agb rfl rfl rfl<|Ops.nil ?_
  refine aA<|W.ret ?_
  obtain rfl:k=13:=by omega
  exact mg (vs:=[v]) ⟨S,hS,.right .refl (.cons rfl .nil)⟩
def aef(ps:List Pn):List Nat×Int:=if nV ps≠0 then([],nV ps)else(qsL fun k=>dD (dO ps 0) 13 k,0)
theorem afo(main:Side)(h:Hp)(ps:List Pn)(vp:Value)(hf:Sl h Pn.row vp ps):dV prog main abZ #[vp] h [] (fun v A=>∃w S,v= .tuple #[w,I (aef ps).2]∧Os dL fH w (zs (aef ps).1) S∧Sb S A):=by
 obtain⟨a,cap,rfl⟩:=hf.dA
 refine dV.aG adO rfl (by show 1≤17;decide) [(0,.slice a ps.length cap)] ⟨rfl,trivial⟩ ?_
 have hbe:kU ps []=nV ps:=by unfold kU;split <;>simp_all
 refine W.seq<|W.region rfl<|agb rfl rfl rfl<|agb rfl rfl rfl<|pq<|W.seq<|W.region rfl<|qm rfl rfl rfl ?_
 refine cp (fun h' hE hL=>Am _ h' ps (.slice a ps.length cap) [] _ (hf.ext hE) .nil (by simp)) ?_
 refine qm rfl rfl rfl<|oq (bD rfl rfl rfl) rfl wn rfl rfl<|oq (bD rfl rfl rfl) rfl wn rfl rfl ?_
 have hcs:∃cs:Array Value,(if kU ps []=0 then xJ (.slice a ps.length cap) 0 else LZ)= .agg cs∧cs.size=2∧ones cs.toList=true:=by
  split
  ·exact⟨_,rfl,rfl,rfl⟩
  ·exact⟨_,rfl,rfl,rfl⟩
 obtain⟨cs,hcs,hcs2,hcs1⟩:=hcs
 rw[hcs,hbe]
 refine Ops.new (fun wC=>?_)
 refine Ops.jP (n:=2) (vs:=cs) ?_ (hy:=by rfl) (hn:=hcs2) (h1:=hcs1)
 refine agb rfl rfl rfl<|pq<|W.seq<|W.seq<|W.region rfl<|qm rfl rfl rfl ?_
 refine agW (nG rfl rfl rfl) rfl ?_
 refine pq ?_
 refine W.bC rfl (fun c12=>?_) (fun c12=>?_)
 ·refine W.seq<|W.region rfl<|qm rfl rfl rfl<|agb rfl rfl rfl<|agb rfl rfl rfl<|pq<|W.ret<|aY ?_
  refine mg (vs:=[_,_]) ?_
  rw[aef,if_pos (by simpa using c12)]
  exact⟨_,[],rfl,.nil .nil,.nil (by repeat(first | exact Shut.nil | refine Shut.cons rfl ?_))⟩
 ·have h0:nV ps=0:=by simpa using c12
  rw[if_pos (by rw[hbe];exact h0)]at hcs
  cases hcs
  refine W.skip<|aA<|W.seq<|W.region rfl ?_
  refine ag2 rfl ?_
  refine cp (fun h' hE hL=>Uo _ h' ps _ 0 (hf.ext hE) (iP.yB h0) (by decide)) ?_
  refine c0 (fun h' hE hL=>ae1 _ h' _) (fun v A' hv=>?_)
  obtain⟨S,hS,hsb⟩:=hv
  refine agb rfl rfl rfl<|agb rfl rfl rfl<|pq<|W.ret ?_
  refine mg (vs:=[_,_]) ?_
  rw[aef,if_neg (by simpa using h0)]
  exact⟨_,S,rfl,hS,.right hsb (.cons rfl .nil)⟩
theorem ae4{ps:List Pn}(h:nV ps=0):aef ps=(qsL fun k=>dD (dO ps 0) 13 k,0):=by rw[aef,if_neg (by simpa using h)]
end Go.aS

/- The shortest way to treacle; what treacle comes of a syrup. Conditions: none; over the given program. -/
namespace Go.aS
set_option maxRecDepth 100000
set_option maxHeartbeats 4000000
def shF(ps:List Pn)(c q:Nat):Option Wy:=(Ah (dO ps c) q).find? fun w=>dY ps w.2
theorem ah_(main:Side)(h:Hp)(ps:List Pn)(vp:Value)(c q:Nat)(hf:Sl h Pn.row vp ps)(hok:iP ps)(hc:c<16)(hq:q<13):dV prog main ag6 #[xJ vp c,I q] h [] (fun v A=>∃w S,v= .tuple #[w,.bool (shF ps c q).isSome]∧(∀u,shF ps c q=some u→Vx S w (zs u.1))∧(shF ps c q=none→w= .slice none 0 0)∧Shut S∧Sb S A):=by
 obtain⟨a,cap,rfl⟩:=hf.dA
 refine dV.aG ahp rfl (by show 2≤17;decide) [(0,xJ (.slice a ps.length cap) c),(1,I q)] ⟨rfl,rfl,trivial⟩ ?_
 refine W.seq<|W.region rfl ?_
 refine Ops.box (cs:= #[.slice a ps.length cap,U8 c]) (fun yR=>?_)
 refine Ops.new (fun wC=>?_)
 refine Ops.new (fun mZ=>?_)
 refine pq<|W.seq<|W.seq<|W.region rfl ?_
 refine ag2 rfl ?_
 refine qm rfl rfl rfl ?_
 refine c0 (fun h' hE hL=>Yt _ h' _ c q rfl) (fun v A' hv=>?_)
 obtain⟨b1,b2,rfl,rfl⟩:=hv
 refine pq<|W.block ?_
 refine W.abW (Val:=adG) (xs:=Ah (dO ps c) q) rfl rfl rfl
  (fun k A=>(∀y∈(Ah (dO ps c) q).take k,dY ps y.2=false)∧A=[(mZ,.cells #[.bool false] RS (0,0)),(wC,.cells #[.slice none 0 0] nS (0,0)),(yR,.cells #[.slice a ps.length cap,U8 c] bG (0,0))])
  (fun k v e A=>e= .ret∧∃w vw,(Ah (dO ps c) q)[k]? =some w∧(∀y∈(Ah (dO ps c) q).take k,dY ps y.2=false)∧dY ps w.2=true∧v= .agg #[vw,I w.2]∧A=[(mZ,.cells #[.bool true] RS (0,0)),(wC,.cells #[vw] nS (0,0))])
  (.tail (.tail .all)) ⟨by simp,rfl⟩ (fun h' hE hL=>Qm _ h' ps _ c q b1 b2 _ _ _ _ (hf.ext hE) hok hc (by omega) (hL b1 _ (.head _)) (hL b2 _ (.tail _ (.head _)))) ?_ ?_
 ·rintro k p v S A1 hp ⟨vw,rfl,hv1,hvR⟩ ⟨hno,rfl⟩ l h1 hE1 hL1 hS1
  obtain⟨av,cv,rfl⟩:=(hvR.2 _ hS1).dA
  have hlen:(zs p.1).length=p.1.length:=kT _
  refine W.region rfl ?_
  refine Ops.new (fun yC=>?_)
  refine Ops.jP (vs:= #[.slice av (zs p.1).length cv,I p.2]) ?_
  refine Ops.nil ?_
  refine⟨rfl,rfl,fun h0 hE0 hL0=>?_⟩
  intro hS0
  refine W.block<|W.seq<|W.region rfl ?_
  refine ag2 rfl ?_
  refine agY rfl ?_
  refine agX rfl ?_
  refine cp (fun h' hE hL=>Si _ h' ps _ c p.2 (hf.ext (hE0.trans hE)) hok.len) ?_
  refine pq ?_
  refine W.cond rfl (fun c14=>?_) (fun c14=>?_)
  ·refine W.seq<|W.region rfl ?_
   refine agY rfl ?_
   refine agX rfl ?_
   refine Ops.yG ?_
   refine Ops.yG ?_
   refine pq<|W.ret<|cZ ?_
   exact⟨rfl,.inr ⟨rfl,_,⟨rfl,p,_,hp,hno,c14,rfl,rfl⟩,.skip rfl (.cons (.cons (.nil (.cons rfl .nil))))⟩⟩
  ·refine W.skip<|dI ?_
   exact⟨rfl,.inl ⟨rfl,_,⟨Qn (p:=fun w:Wy=>dY ps w.2) hp hno (by simpa using c14),rfl⟩,.skip rfl .refl⟩⟩
 ·rintro e2 A2 (⟨rfl,hno,rfl⟩ | ⟨k,p,v,S,B,hp,⟨vw,rfl,hv1,hvR⟩,⟨rfl,w,vw',hw,hno,hr,hv,rfl⟩,rfl⟩) d
  ·refine dI<|aA<|W.seq<|W.region rfl ?_
   refine Ops.yG ?_
   refine Ops.yG ?_
   refine pq<|W.ret ?_
   have e3:shF ps c q=none:=Vz hno
   refine lvm (hl:=At.head) (QJ (hv:=rSc (rSc zJ)) ?_)
   rw[e3]
   exact⟨_,[],rfl,(fun u h=>by cases h),(fun _=>rfl),.nil,.nil (by repeat(first | exact Shut.nil | refine Shut.cons rfl ?_))⟩
  ·obtain rfl:=Option.some.inj (hp.symm.trans hw)
   obtain rfl:vw=vw':=by simpa using hv
   have e3:shF ps c q=some p:=Ut hp hno hr
   refine cZ<|aY ?_
   refine lvm (hl:=At.head) (QJ (hv:=rSc (rSc zJ)) ?_)
   rw[e3]
   exact⟨_,S,rfl,(fun u h=>by cases h;exact hvR),(fun h=>by cases h),hvR.1,.skip rfl (.skip rfl (.skip rfl (.skip rfl (.skip rfl .refl))))⟩
def enB(ps:List Pn)(l:List Wy)(e:Nat):Bool:=l.any fun w=>decide (w.2=e)&&dY ps w.2
def EnF(ps:List Pn)(q:Int):List Nat×Int:=if kU ps [q]≠0 then([],kU ps [q])else(qsL (enB ps (Ah (dO ps 0) q.toNat)),0)
theorem aio{ps:List Pn}{l:List Wy}{k:Nat}{w:Wy}(h:l[k]? =some w):(fun i=>if i=w.2 then dY ps w.2 else enB ps (l.take k) i)=enB ps (l.take (k+1)):=by
 funext i
 rw[List.take_add_one,h]
 simp only[enB,Option.toList_some,List.any_append,List.any_cons,List.any_nil,Bool.or_false]
 by_cases hi:i=w.2
 ·subst hi
  rw[if_pos rfl]
  simp only[decide_true,Bool.true_and]
  cases ht:dY ps (w.2:Int)with
  | true=>rw[Bool.or_true]
  | false=>
   rw[Bool.or_false,eq_comm]
   refine List.any_eq_false.2 fun u hu=>?_
   simp only[Bool.and_eq_true,decide_eq_true_eq,not_and]
   intro hu2;rw[hu2,ht];decide
 ·rw[if_neg hi,decide_eq_false (fun h=>hi h.symm),Bool.false_and,Bool.or_false]
theorem aiH(main:Side)(h:Hp)(ps:List Pn)(vp:Value)(q:Int)(hf:Sl h Pn.row vp ps):dV prog main ahw #[vp,I q] h [] (fun v A=>∃w S,v= .tuple #[w,I (EnF ps q).2]∧Os dL fH w (zs (EnF ps q).1) S∧Sb S A):=by
 obtain⟨a,cap,rfl⟩:=hf.dA
 refine dV.aG ahW rfl (by show 2≤33;decide) [(0,.slice a ps.length cap),(1,I q)] ⟨rfl,rfl,trivial⟩ ?_
 refine W.seq<|W.region rfl<|agb rfl rfl rfl<|agb rfl rfl rfl<|pq<|W.seq<|W.region rfl<|qm rfl rfl rfl<|qm rfl rfl rfl ?_
 refine Ops.NK (cs:= #[I q]) (fun X5=>?_) rfl
 refine cp (fun h' hE hL=>Am _ h' ps _ [q] _ (hf.ext hE) (Sl.mk (hL X5 _ (.head _)) rfl (Part.all [I q])) (by simp)) ?_
 refine qm rfl rfl rfl<|oq (bD rfl rfl rfl) rfl wn rfl rfl<|oq (bD rfl rfl rfl) rfl wn rfl rfl ?_
 have hcs:∃cs:Array Value,(if kU ps [q]=0 then xJ (.slice a ps.length cap) 0 else LZ)= .agg cs∧cs.size=2∧ones cs.toList=true:=by
  split <;>exact⟨_,rfl,rfl,rfl⟩
 obtain⟨cs,hcs,hcs2,hcs1⟩:=hcs
 rw[hcs]
 refine Ops.new (fun yC=>?_)
 refine Ops.jP (n:=2) (vs:=cs) ?_ (hy:=by rfl) (hn:=hcs2) (h1:=hcs1)
 refine agb rfl rfl rfl<|pq<|W.seq<|W.seq<|W.region rfl<|qm rfl rfl rfl ?_
 refine agW (nG rfl rfl rfl) rfl ?_
 refine pq ?_
 refine W.bC rfl (fun c18=>?_) (fun c18=>?_)
 ·have e:EnF ps q=([],kU ps [q]):=by rw[EnF,if_pos (by simpa using c18)]
  refine W.seq<|W.region rfl<|qm rfl rfl rfl<|agb rfl rfl rfl<|agb rfl rfl rfl<|pq<|W.ret<|aY ?_
  refine mg (vs:=[_,_]) ?_
  rw[e]
  exact⟨_,[],rfl,.nil .nil,.nil (by repeat(first | exact Shut.nil | refine Shut.cons rfl ?_))⟩
 ·have h0:kU ps [q]=0:=by simpa using c18
  obtain⟨hok,hq0,hq12⟩:=Sj h0
  rw[if_pos h0]at hcs
  cases hcs
  obtain⟨q,rfl⟩:∃n:Nat,q=n:=⟨q.toNat,by omega⟩
  have e:EnF ps q=(qsL (enB ps (Ah (dO ps 0) q)),0):=by rw[EnF,if_neg (by simpa using h0),Int.toNat_natCast]
  refine W.skip<|aA<|W.seq<|W.region rfl ?_
  refine Ops.new (fun yD=>?_)
  refine pq<|W.seq<|W.seq<|W.region rfl ?_
  refine ag2 rfl ?_
  refine qm rfl rfl rfl ?_
  refine c0 (fun h' hE hL=>Yt _ h' _ 0 q rfl) (fun v A' hv=>?_)
  obtain⟨b1,b2,rfl,rfl⟩:=hv
  refine pq<|W.block ?_
  refine W.abW (Val:=adG) (xs:=Ah (dO ps 0) q) rfl rfl rfl
   (fun k A=>A=[(yD,.cells (bA (enB ps ((Ah (dO ps 0) q).take k))) aP (0,0)),(yC,.cells #[.slice a ps.length cap,U8 0] bG (0,0)),(X5,.cells #[I q] dL (0,0))])
   (fun k v e A=>False)
   (.tail (.tail .all)) (eqc (by rfl)) (fun h' hE hL=>Qm _ h' ps _ 0 q b1 b2 _ _ _ _ (hf.ext hE) hok (by decide) (by omega) (hL b1 _ (.head _)) (hL b2 _ (.tail _ (.head _)))) ?_ ?_
  ·rintro k p v S A1 hp ⟨vw,rfl,hv1,hvR⟩ rfl l h1 hE1 hL1 hS1
   obtain⟨av,cv,rfl⟩:=(hvR.2 _ hS1).dA
   have hlen:(zs p.1).length=p.1.length:=kT _
   have akj:p.2<13:=by
    obtain⟨met,H⟩:=aee afX (q:=q) (g:=dO ps 0) F9
    exact YU (by omega) (H.path p (by simpa using List.mem_of_getElem? hp))
   have hsz:0+p.2*1<(bA (enB ps ((Ah (dO ps 0) q).take k))).size:=by rw[nX];omega
   refine W.region rfl ?_
   refine Ops.new (fun Uw=>?_)
   refine Ops.jP (vs:= #[.slice av (zs p.1).length cv,I p.2]) ?_
   refine Ops.nil ?_
   refine⟨rfl,rfl,fun h0 hE0 hL0=>?_⟩
   intro hS0
   refine W.block ?_
   refine W.rE (n:=8) rfl ?_
   refine xq 0 (ay rfl rfl) rfl ?_
   refine xq 1 (iQ rfl rfl) rfl ?_
   first | refine xq 2 (Bf rfl rfl) rfl ?_ | refine xq 2 (zi rfl rfl) rfl ?_
   refine xq 3 (ay rfl rfl) rfl ?_
   refine xq 4 (iQ rfl rfl) rfl ?_
   refine Va (i:=5) (fun h' hE hL=>Si _ h' ps _ 0 p.2 (hf.ext (hE0.trans hE)) hok.len) ?_
   first | refine xq 6 (UN rfl rfl rfl) rfl ?_ | refine xq 6 (Qg rfl rfl rfl) rfl ?_
   refine ae (i:=7) rfl an rfl rfl (eS rfl rfl rfl ?_)
   refine⟨.inl (by kernel_rfl),?_⟩
   refine az ?_
   refine dI ?_
   refine⟨rfl,.inl ⟨rfl,_,rfl,.skip rfl (.eq ?_)⟩⟩
   refine eqc ?_
   rw[show 0+p.2*1=p.2 by omega,Og akj,aio hp]
  ·rintro e2 A2 h9 d
   have h9':e2= .normal∧A2=[(yD,.cells (bA (enB ps ((Ah (dO ps 0) q)))) aP (0,0)),(yC,.cells #[.slice a ps.length cap,U8 0] bG (0,0)),(X5,.cells #[I q] dL (0,0))]:=by
    rcases h9 with⟨h1,h2⟩ | ⟨k,p,v,S,B,hp,hv,hF,-⟩
    ·rw[List.take_length]at h2;exact⟨h1,h2⟩
    ·exact hF.elim
   obtain⟨rfl,rfl⟩:=h9'
   have hs1:(bA (enB ps (Ah (dO ps 0) q))).size=13:=nX
   refine dI<|aA<|W.seq<|W.region rfl ?_
   refine ag2 rfl ?_
   refine c0 (fun h' hE hL=>ae1 _ h' _) (fun v A' hv=>?_)
   obtain⟨S,hS,hsb⟩:=hv
   refine agb rfl rfl rfl<|agb rfl rfl rfl<|pq<|W.ret ?_
   refine lvm (mg (vs:=[_,_]) ?_)
   rw[e]
   exact⟨_,S,rfl,hS,.right hsb (by repeat(first | exact Shut.nil | refine Shut.cons rfl ?_))⟩
end Go.aS

/- Treacle, as the document has it. Conditions: none; over the given program. -/
namespace Go.aS
set_option maxRecDepth 100000
set_option maxHeartbeats 4000000
end Go.aS

/- SyrupShortest. Conditions: none; over the given program. -/
namespace Go.aS
set_option maxRecDepth 100000
set_option maxHeartbeats 4000000
end Go.aS

/- Pans that are forced. Conditions: none; over the given program. -/
namespace Go.aS
set_option maxRecDepth 100000
set_option maxHeartbeats 4000000
def noW(ps:List Pn)(q p:Nat):Bool:=(shF ps (2 ^ p) q).isNone
def FoF(ps:List Pn)(q:Int):List Nat×Int:=
 if kU ps [q]≠0 then([],kU ps [q])else
  match shF ps 0 q.toNat with
  | some _=>((List.range ps.length).filter (noW ps q.toNat),0)
  | none=>([],11)
def aif(ps:List Pn)(q k:Nat):Int→Option Value:=fun x=>if 0≤x∧x<k∧noW ps q x.toNat=true then some (.bool true)else none
theorem ajm{ps:List Pn}{q:Nat}:aif ps q 0=fun _=>none:=by
 funext x;rw[aif,if_neg (by omega)]
theorem ajb{ps:List Pn}{q k:Nat}(h:noW ps q k=true):(fun x=>if x=(k:Int)then some (.bool true)else aif ps q k x)=aif ps q (k+1):=by
 funext x
 simp only[aif]
 by_cases hx:x=(k:Int)
 ·subst hx
  rw[if_pos rfl,if_pos ⟨by omega,by omega,by rw[Int.toNat_natCast];exact h⟩]
 ·rw[if_neg hx]
  by_cases h2:0≤x∧x<(k:Int)∧noW ps q x.toNat=true
  ·rw[if_pos h2,if_pos ⟨h2.1,by omega,h2.2.2⟩]
  ·rw[if_neg h2,if_neg fun h3=>h2 ⟨h3.1,by omega,h3.2.2⟩]
theorem ai4{ps:List Pn}{q k:Nat}(h:noW ps q k=false):(fun x=>if x=(k:Int)then none else if x=(k:Int)then some (.bool true)else aif ps q k x)=aif ps q (k+1):=by
 funext x
 simp only[aif]
 by_cases hx:x=(k:Int)
 ·subst hx
  rw[if_pos rfl,if_neg fun h3=>by rw[Int.toNat_natCast,h]at h3;cases h3.2.2]
 ·rw[if_neg hx,if_neg hx]
  by_cases h2:0≤x∧x<(k:Int)∧noW ps q x.toNat=true
  ·rw[if_pos h2,if_pos ⟨h2.1,by omega,h2.2.2⟩]
  ·rw[if_neg h2,if_neg fun h3=>h2 ⟨h3.1,by omega,h3.2.2⟩]
theorem ajc{ps:List Pn}{q k p:Nat}(h:p<k):(aif ps q k (p:Int)).getD (.bool false)= .bool (noW ps q p):=by
 rw[aif]
 by_cases hp:noW ps q p=true
 ·rw[if_pos ⟨by omega,by omega,by rw[Int.toNat_natCast];exact hp⟩,hp];rfl
 ·rw[if_neg fun h3=>hp (by rw[Int.toNat_natCast]at h3;exact h3.2.2),Bool.eq_false_iff.2 hp];rfl
theorem akS:∀k:Nat,k<4→IntKind.u8.wrap (1*2 ^ (min ((k:Nat):Int).toNat IntKind.u8.bits))=((2 ^ k:Nat):Int):=by decide
theorem ajd{k:Nat}(h:k<4):2 ^ k<16:=Nat.pow_lt_pow_right (a:=2) (by omega) h

theorem ai5(main:Side)(h:Hp)(ps:List Pn)(vp:Value)(q:Int)(hf:Sl h Pn.row vp ps):dV prog main ahn #[vp,I q] h [] (fun v A=>∃w S,v= .tuple #[w,I (FoF ps q).2]∧Os dL fH w (zs (FoF ps q).1) S∧Sb S A):=by
 obtain⟨a,cap,rfl⟩:=hf.dA
 refine dV.aG ahR rfl (by show 2≤69;decide) [(0,.slice a ps.length cap),(1,I q)] ⟨rfl,rfl,trivial⟩ ?_
 refine W.seq<|W.region rfl<|agb rfl rfl rfl<|agb rfl rfl rfl<|pq<|W.seq<|W.region rfl<|qm rfl rfl rfl<|qm rfl rfl rfl ?_
 refine Ops.NK (cs:= #[I q]) (fun akT=>?_) rfl
 refine cp (fun h' hE hL=>Am _ h' ps _ [q] _ (hf.ext hE) (Sl.mk (hL akT _ (.head _)) rfl (Part.all [I q])) (by simp)) ?_
 refine qm rfl rfl rfl<|oq (bD rfl rfl rfl) rfl wn rfl rfl<|oq (bD rfl rfl rfl) rfl wn rfl rfl ?_
 have hcs:∃cs:Array Value,(if kU ps [q]=0 then xJ (.slice a ps.length cap) 0 else LZ)= .agg cs∧cs.size=2∧ones cs.toList=true:=by
  split <;>exact⟨_,rfl,rfl,rfl⟩
 obtain⟨cs,hcs,hcs2,hcs1⟩:=hcs
 rw[hcs]
 refine Ops.new (fun yC=>?_)
 refine Ops.jP (n:=2) (vs:=cs) ?_ (hy:=by rfl) (hn:=hcs2) (h1:=hcs1)
 refine agb rfl rfl rfl<|pq<|W.seq<|W.seq<|W.region rfl<|qm rfl rfl rfl ?_
 refine agW (nG rfl rfl rfl) rfl ?_
 refine pq ?_
 refine W.bC rfl (fun c24=>?_) (fun c24=>?_)
 ·have e:FoF ps q=([],kU ps [q]):=by rw[FoF,if_pos (by simpa using c24)]
  refine W.seq<|W.region rfl<|qm rfl rfl rfl<|agb rfl rfl rfl<|agb rfl rfl rfl<|pq<|W.ret<|aY ?_
  refine mg (vs:=[_,_]) ?_
  rw[e]
  exact⟨_,[],rfl,.nil .nil,.nil (by repeat(first | exact Shut.nil | refine Shut.cons rfl ?_))⟩
 ·have h0:kU ps [q]=0:=by simpa using c24
  obtain⟨hok,hq0,hq12⟩:=Sj h0
  have h4:=hok.len
  rw[if_pos h0]at hcs
  cases hcs
  obtain⟨q,rfl⟩:∃n:Nat,q=n:=⟨q.toNat,by omega⟩
  have e:FoF ps q=match shF ps 0 q with | some _=>((List.range ps.length).filter (noW ps q),0) | none=>([],11):=by rw[FoF,if_neg (by simpa using h0),Int.toNat_natCast]
  refine W.skip<|aA<|W.seq<|W.seq<|W.region rfl ?_
  refine ag2 rfl ?_
  refine qm rfl rfl rfl ?_
  refine c0 (fun h' hE hL=>ah_ _ h' ps _ 0 q (hf.ext hE) hok (by decide) (by omega)) (fun v A' hv=>?_)
  obtain⟨w,S,rfl,-,-,hSS,hsb⟩:=hv
  refine Ops.sb (F':=[(yC,.cells #[.slice a ps.length cap,U8 0] bG (0,0))]) (.left (.right (B:=[_]) .refl (.cons rfl .nil)) (Sb.trans (.nil hSS) hsb).shut) ?_
  refine qm rfl rfl rfl<|oq (bD rfl rfl rfl) rfl wn rfl rfl<|oq (bD rfl rfl rfl) rfl wn rfl rfl<|agb rfl rfl rfl<|agb rfl rfl rfl<|pq<|W.seq<|W.region rfl<|qm rfl rfl rfl ?_
  refine agW (xU rfl rfl) rfl ?_
  refine pq ?_
  refine W.cond rfl (fun c33=>?_) (fun c33=>?_)
  ·have e2:shF ps 0 q=none:=by
    cases hh:shF ps 0 q with
    | none=>rfl
    | some u=>rw[hh]at c33;simp at c33
   rw[e2]at e
   refine W.seq<|W.region rfl<|agb rfl rfl rfl<|agb rfl rfl rfl<|pq<|W.ret<|aY ?_
   refine mg (vs:=[_,_]) ?_
   rw[e]
   exact⟨_,[],rfl,.nil .nil,.nil (by repeat(first | exact Shut.nil | refine Shut.cons rfl ?_))⟩
  ·obtain⟨u,e2⟩:∃u,shF ps 0 q=some u:=by
    cases hh:shF ps 0 q with
    | none=>rw[hh]at c33;simp at c33
    | some u=>exact⟨u,rfl⟩
   rw[e2]at e
   refine W.skip<|aA<|W.seq<|W.region rfl ?_
   refine oe rfl wn rfl rfl (Md rfl (fun ahd hn hm=>?_))
   refine agb rfl rfl rfl<|pq<|W.seq<|W.seq<|W.region rfl<|qm rfl rfl rfl ?_
   refine agW (dM rfl rfl) rfl ?_
   refine qm rfl rfl rfl<|pq<|W.block ?_
   refine W.loop (σ:=Nat×Array MapEntry×Nat×Nat) (fun s=>s.1≤ps.length∧ER s.2.1 (aif ps q s.1)∧s.2.2.2<16) (fun s=>[(37,I s.1),(36,I ps.length),(10,.map (some ahd)),(6,.pointer (some ⟨yC,0,none⟩)),(1,I q),(0,.slice a ps.length cap)])
    (fun s=>[(ahd,.map s.2.1 s.2.2.1),(yC,.cells #[.slice a ps.length cap,U8 s.2.2.2] bG (0,0))]) (fun s=>ps.length-s.1) (0, #[],0,0) ⟨Nat.zero_le _,by show ER #[] (aif ps q 0);rw[ajm];exact ER.nil,by decide⟩ ⟨rfl,rfl,rfl,rfl,rfl,rfl,trivial⟩ .refl ?_
   rintro⟨k,es,ck,c⟩ ⟨hk,hM,hc⟩
   dsimp only at*
   refine W.seq<|W.region rfl ?_
   refine agW (fO rfl rfl rfl) rfl ?_
   refine pq<|W.seq ?_
   refine W.bC rfl (fun c38=>?_) (fun c38=>?_)
   ·have hkl:k<ps.length:=by omega
    refine W.skip<|aA<|W.seq<|W.block<|W.seq<|W.region rfl<|qm rfl rfl rfl<|agb rfl rfl rfl<|pq ?_
    refine W.seq<|W.region rfl<|qm rfl rfl rfl<|qm rfl rfl rfl ?_
    refine oe rfl wn rfl rfl (SE rfl rfl rfl rfl .head hM (fun es2 ck2 hM2=>?_))
    refine pq<|W.seq<|W.region rfl<|qm rfl rfl rfl ?_
    refine KU (Wx rfl rfl rfl (by omega)) (congrArg (Value.int .u8) (akS k (by omega))) rfl wn rfl rfl ?_
    refine agY rfl ?_
    refine Ops.yG ?_
    refine pq<|W.seq<|W.region rfl ?_
    refine ag2 rfl ?_
    refine qm rfl rfl rfl ?_
    refine c0 (fun h' hE hL=>ah_ _ h' ps _ (2 ^ k) q (hf.ext hE) hok (ajd (by omega)) (by omega)) (fun v A' hv=>?_)
    obtain⟨w,S,rfl,-,-,hSS,hsb⟩:=hv
    refine Ops.sb (F':=[(ahd,.map es2 ck2),(yC,.cells #[.slice a ps.length cap,U8 (2 ^ k)] bG (0,0))]) (.left .refl (Sb.trans (.nil hSS) hsb).shut) ?_
    refine qm rfl rfl rfl<|oq (bD rfl rfl rfl) rfl wn rfl rfl<|oq (bD rfl rfl rfl) rfl wn rfl rfl<|agb rfl rfl rfl<|agb rfl rfl rfl<|pq<|W.seq<|W.region rfl<|qm rfl rfl rfl ?_
    refine pq ?_
    refine W.cond rfl (fun c51=>?_) (fun c51=>?_)
    ·refine W.region rfl<|qm rfl rfl rfl<|qm rfl rfl rfl ?_
     refine oe rfl wn rfl rfl (ajk rfl rfl rfl .head hM2 (fun es3 ck3 hM3=>?_))
     refine Ops.nil<|dI<|aA<|W.region rfl ?_
     refine ag1 rfl ?_
     refine qm rfl rfl rfl<|pq ?_
     have hw:noW ps q k=false:=by rw[noW,←Option.not_isSome,c51];rfl
     rw[ai4 hw]at hM3
     exact⟨rfl,(k+1,es3,ck3,2 ^ k),⟨hkl,hM3,ajd (by omega)⟩,by dsimp only;omega,⟨rfl,rfl,rfl,rfl,rfl,rfl,trivial⟩,.refl⟩
    ·refine W.skip<|dI<|aA<|W.region rfl ?_
     refine ag1 rfl ?_
     refine qm rfl rfl rfl<|pq ?_
     have hw:noW ps q k=true:=by rw[noW,←Option.not_isSome];simpa using c51
     rw[ajb hw]at hM2
     exact⟨rfl,(k+1,es2,ck2,2 ^ k),⟨hkl,hM2,ajd (by omega)⟩,by dsimp only;omega,⟨rfl,rfl,rfl,rfl,rfl,rfl,trivial⟩,.refl⟩
   ·obtain rfl:k=ps.length:=by omega
    refine W.exit<|bP<|bP<|gG<|aA<|W.seq<|W.region rfl<|agb rfl rfl rfl<|pq ?_
    refine W.seq<|W.seq<|W.region rfl<|qm rfl rfl rfl ?_
    refine agW (dM rfl rfl) rfl ?_
    refine qm rfl rfl rfl<|pq<|W.block ?_
    refine W.Js (fun(k:Nat) (v:Value) (S:ah)=>k≤ps.length∧Os dL fH v (zs ((List.range k).filter (noW ps q))) S) (fun k v S=>[(57,I k),(56,I ps.length),(14,v),(10,.map (some ahd)),(0,.slice a ps.length cap)]) (fun k v S=>S++[(ahd,.map es ck)]) (fun k _ _=>ps.length-k) 0 (.slice none 0 0) [] ⟨Nat.zero_le _,.nil .nil⟩ ⟨rfl,rfl,rfl,rfl,rfl,trivial⟩ (.cons (.skip rfl .refl)) ?_
    rintro k v S ⟨hk2,hS⟩
    refine W.seq<|W.region rfl ?_
    refine agW (fO rfl rfl rfl) rfl ?_
    refine pq<|W.seq ?_
    refine W.bC rfl (fun c58=>?_) (fun c58=>?_)
    ·have hkl:k<ps.length:=by omega
     have hlen:(zs ((List.range k).filter (noW ps q))).length≤4:=by rw[kT];exact Nat.le_trans (List.length_filter_le ..) (by simp;omega)
     refine W.skip<|aA<|W.seq<|W.block<|W.seq<|W.region rfl<|qm rfl rfl rfl<|agb rfl rfl rfl<|pq ?_
     refine W.seq<|W.region rfl<|qm rfl rfl rfl<|qm rfl rfl rfl ?_
     refine oe rfl wn rfl rfl (aaj rfl rfl rfl (.app .head) hM ?_)
     rw[ajc hkl]
     refine pq ?_
     refine W.cond rfl (fun c62=>?_) (fun c62=>?_)
     ·refine W.region rfl<|qm rfl rfl rfl<|qm rfl rfl rfl ?_
      refine Ops.NK (cs:= #[I k]) (fun akV=>?_) rfl
      refine oe rfl wn rfl rfl (iW (row:=fH) (l':=[(k:Int)]) rfl rfl rfl hS (.tail .head) (fun h2 _ hl=>Sl.mk (hl akV _ (.head _)) rfl (Part.all [I k])) (by simp;omega) (by decide) rfl (fun v' S' hS'=>?_))
      refine agb rfl rfl rfl<|Ops.nil<|dI<|aA<|W.region rfl ?_
      refine ag1 rfl ?_
      refine qm rfl rfl rfl<|pq ?_
      exact⟨rfl,k+1,v',S',⟨by omega,by rw[List.range_succ,List.filter_append,X3];simpa[zs,c62]using hS'⟩,by omega,⟨rfl,rfl,rfl,rfl,rfl,trivial⟩,.skip rfl .refl⟩
     ·refine W.skip<|dI<|aA<|W.region rfl ?_
      refine ag1 rfl ?_
      refine qm rfl rfl rfl<|pq ?_
      exact⟨rfl,k+1,v,S,⟨by omega,by rw[List.range_succ,List.filter_append,X3];simpa[zs,c62]using hS⟩,by omega,⟨rfl,rfl,rfl,rfl,rfl,trivial⟩,.refl⟩
    ·refine W.exit<|bP<|bP<|gG<|aA<|W.seq<|W.region rfl<|qm rfl rfl rfl<|agb rfl rfl rfl<|agb rfl rfl rfl ?_
     refine pq<|W.ret ?_
     obtain rfl:k=ps.length:=by omega
     refine mg (vs:=[_,_]) ?_
     rw[e]
     exact⟨_,S,rfl,hS,.right .refl (.cons rfl .nil)⟩
end Go.aS

/- Pans that are shut; where one comes without them. Conditions: none; no program in sight. -/
namespace Go.aS
set_option linter.unusedVariables false
def stp(g:yV)(q o:Nat):Prop:=∃p,(p,o)∈g q
theorem aix{g g':yV}(h:∀q o,stp g q o↔stp g' q o):∀{n q e:Nat},(∃v:List Nat,v.length=n∧qJ g q v e)→∃v:List Nat,v.length=n∧qJ g' q v e
 | 0,q,e,⟨v,h1,h2⟩=>by
  obtain rfl:=List.length_eq_zero_iff.1 h1
  exact⟨[],rfl,h2⟩
 | n+1,q,e,⟨v,h1,h2⟩=>by
  rcases v with _ | ⟨p,r⟩
  ·cases h1
  ·obtain⟨o,h3,h4⟩:=h2
   obtain⟨p',h5⟩:=(h q o).1 ⟨p,h3⟩
   obtain⟨r',h6,h7⟩:=aix h (n:=n) ⟨r,by simpa using h1,h4⟩
   exact⟨p'::r',by simp[h6],o,h5,h7⟩
theorem aiR{g g':yV}(h:∀q o,stp g q o↔stp g' q o){n q e:Nat}:(∃v:List Nat,v.length=n∧qJ g q v e)↔∃v:List Nat,v.length=n∧qJ g' q v e:=
 ⟨aix h,aix fun q o=>(h q o).symm⟩
theorem ajH{g g':yV}(h:∀q o,stp g q o↔stp g' q o){n q:Nat}:dD g n q=dD g' n q:=by
 rw[Bool.eq_iff_iff,JJ,JJ]
 constructor <;>rintro⟨v,e,h1,h2⟩
 ·obtain⟨v',h3,h4⟩:=(aiR h).1 ⟨v,h1,h2⟩;exact⟨v',e,h3,h4⟩
 ·obtain⟨v',h3,h4⟩:=(aiR h).2 ⟨v,h1,h2⟩;exact⟨v',e,h3,h4⟩

theorem ai2{ps:List Pn}(h4:ps.length≤4){c q o:Nat}:stp (dO ps c) q o↔∃i x,ps[i]? =some x∧c.testBit i=false∧x.takes q=true∧o=(x.out q).toNat:=by
 unfold stp
 simp only[Um,Ak]
 constructor
 ·rintro⟨i,⟨h1,h2,h3⟩,rfl⟩
  unfold P9 at h2
  split at h2
  ·rename_i x hx
   exact⟨i,x,hx,h3,h2,by rw[gy,hx]⟩
  ·cases h2
 ·rintro⟨i,x,hx,h3,h2,rfl⟩
  refine⟨i,⟨?_,?_,h3⟩,by rw[gy,hx]⟩
  ·obtain⟨h,-⟩:=List.getElem?_eq_some_iff.1 hx;omega
  ·unfold P9;rw[hx];exact h2
end Go.aS

/- Pans shut, as the document has it. Conditions: none; over the given program. -/
namespace Go.aS
set_option maxRecDepth 100000
set_option maxHeartbeats 4000000
end Go.aS

/- SyrupForced. Conditions: none; over the given program. -/
namespace Go.aS
set_option maxRecDepth 100000
set_option maxHeartbeats 4000000
end Go.aS

/- All ascending lists of so many numbers, as a program makes them. Conditions: none; no program in sight. -/
namespace Go.aS
set_option linter.unusedVariables false
set_option maxRecDepth 100000
end Go.aS

/- All ascending lists of so many numbers. Conditions: none; over the given program. -/
namespace Go.aS
set_option maxRecDepth 100000
set_option maxHeartbeats 4000000
theorem UG.os{α:Type}{row:α→List Value}{w:Nat}[Rw row w]{E:TypeId}{vs:List Sv}{ls:List (List α)}{A:ah}(h:UG E row vs ls A):∀{k:Nat} {s:Sv} {l:List α},vs[k]? =some s→ls[k]? =some l→∃B,Os E row s.val l B∧∀p∈B,p∈A:=by
 induction h with
 | nil=>intro k s l hs;simp at hs
 | cons h1 _ ih=>
  intro k s l hs hl
  rcases k with _ | k
  ·simp at hs hl;subst hs hl
   exact⟨_,h1,fun p hp=>List.mem_append_left _ hp⟩
  ·simp at hs hl
   obtain⟨B,h2,h3⟩:=ih hs hl
   exact⟨B,h2,fun p hp=>List.mem_append_right _ (h3 p hp)⟩
end Go.aS

/- SyrupClosed. Conditions: none; over the given program. -/
namespace Go.aS
set_option maxRecDepth 100000
set_option maxHeartbeats 4000000
end Go.aS

/- SyrupMore. Conditions: none; over the given program. -/
namespace Go.aS
set_option maxRecDepth 100000
set_option maxHeartbeats 4000000
end Go.aS

/- Pans that are checked, and which of them take a syrup, as the document has it and as the program has it. Conditions: none; over the given program. -/
namespace Go.aS
set_option maxRecDepth 100000
set_option maxHeartbeats 4000000
theorem akP{ps:List Pn}{q:Int}:kU ps [q]=if nV ps≠0 then nV ps else if outs q 0 12 then 1 else 0:=by
 unfold kU;simp
def TkF(ps:List Pn)(q:Int):List Nat×Int:=if kU ps [q]≠0 then([],kU ps [q])else((List.range ps.length).filter fun i=>P9 ps q i,0)
theorem aln{ps:List Pn}{q:Int}:(TkF ps q).1.length≤4:=by
 unfold TkF
 split
 ·simp
 ·rename_i h
  have h4:ps.length≤4:=(Sj (by simpa using h)).1.len
  exact Nat.le_trans (List.length_filter_le ..) (by simpa using h4)
theorem ale{ps:List Pn}{q:Nat}(h4:ps.length≤4):bQ ps 0 q=(List.range ps.length).filter fun i=>P9 ps q i:=by
 have e:List.range 4=List.range ps.length++(List.range (4-ps.length)).map (ps.length+ ·):=by
  rw[←List.range_add];congr 1;omega
 rw[bQ,e,List.filter_append]
 have h1:((List.range (4-ps.length)).map (ps.length+ ·)).filter (fun i=>P9 ps q i&& !(0:Nat).testBit i)=[]:=by
  refine List.filter_eq_nil_iff.2 fun i hi=>?_
  obtain⟨j,-,rfl⟩:=List.mem_map.1 hi
  unfold P9
  rw[List.getElem?_eq_none (by omega)];simp
 rw[h1,List.append_nil]
 exact List.filter_congr fun i _=>by simp
theorem ala(main:Side)(h:Hp)(ps:List Pn)(vp:Value)(q:Int)(hf:Sl h Pn.row vp ps):dV prog main akh #[vp,I q] h [] (fun v A=>∃w S,v= .tuple #[w,I (TkF ps q).2]∧Os dL fH w (zs (TkF ps q).1) S∧Sb S A):=by
 obtain⟨a,cap,rfl⟩:=hf.dA
 refine dV.aG akB rfl (by show 2≤21;decide) [(0,.slice a ps.length cap),(1,I q)] ⟨rfl,rfl,trivial⟩ ?_
 refine W.seq<|W.region rfl<|agb rfl rfl rfl<|agb rfl rfl rfl<|pq<|W.seq<|W.region rfl<|qm rfl rfl rfl<|qm rfl rfl rfl ?_
 refine Ops.NK (cs:= #[I q]) (fun KY=>?_) rfl
 refine cp (fun h' hE hL=>Am _ h' ps _ [q] _ (hf.ext hE) (Sl.mk (hL KY _ (.head _)) rfl (Part.all [I q])) (by simp)) ?_
 refine qm rfl rfl rfl<|oq (bD rfl rfl rfl) rfl wn rfl rfl<|oq (bD rfl rfl rfl) rfl wn rfl rfl ?_
 have hcs:∃cs:Array Value,(if kU ps [q]=0 then xJ (.slice a ps.length cap) 0 else LZ)= .agg cs∧cs.size=2∧ones cs.toList=true:=by
  split <;>exact⟨_,rfl,rfl,rfl⟩
 obtain⟨cs,hcs,hcs2,hcs1⟩:=hcs
 rw[hcs]
 refine Ops.new (fun yC=>?_)
 refine Ops.jP (n:=2) (vs:=cs) ?_ (hy:=by rfl) (hn:=hcs2) (h1:=hcs1)
 refine agb rfl rfl rfl<|pq<|W.seq<|W.seq<|W.region rfl<|qm rfl rfl rfl ?_
 refine agW (nG rfl rfl rfl) rfl ?_
 refine pq ?_
 refine W.bC rfl (fun c16=>?_) (fun c16=>?_)
 ·refine W.seq<|W.region rfl<|qm rfl rfl rfl<|agb rfl rfl rfl<|agb rfl rfl rfl<|pq<|W.ret<|aY ?_
  refine mg (vs:=[_,_]) ?_
  rw[TkF,if_pos (by assumption)]
  exact⟨_,[],rfl,.nil .nil,.nil (by repeat(first | exact Shut.nil | refine Shut.cons rfl ?_))⟩
 ·have h0:kU ps [q]=0:=by simpa using c16
  obtain⟨hok,hq0,hq12⟩:=Sj h0
  rw[if_pos h0]at hcs
  cases hcs
  obtain⟨q,rfl⟩:∃n:Nat,q=n:=⟨q.toNat,by omega⟩
  refine W.skip<|aA<|W.seq<|W.region rfl ?_
  refine ag2 rfl ?_
  refine qm rfl rfl rfl ?_
  refine c0 (fun h' hE hL=>EM _ h' ps _ 0 q (hf.ext hE) hok.len (by decide)) (fun v A' hv=>?_)
  obtain⟨S,hS,hsb⟩:=hv
  rw[ale hok.len]at hS
  refine agb rfl rfl rfl<|agb rfl rfl rfl<|pq<|W.ret ?_
  refine mg (vs:=[_,_]) ?_
  rw[TkF,if_neg (by assumption)]
  exact⟨_,S,rfl,hS,.right hsb (by repeat(first | exact Shut.nil | refine Shut.cons rfl ?_))⟩
end Go.aS

/- Ways made of numbers. Conditions: none; over the given program. -/
namespace Go.aS
set_option maxRecDepth 100000
set_option maxHeartbeats 4000000
end Go.aS

/- A way gone along: where it leads, what comes out, what stops it. Conditions: none; no program in sight. -/
namespace Go.aS
set_option linter.unusedVariables false
end Go.aS

/- SyrupBoiled. Conditions: none; over the given program. -/
namespace Go.aS
set_option maxRecDepth 100000
set_option maxHeartbeats 4000000
theorem Os.room{α:Type}{row:α→List Value}{w:Nat}[Rw row w]{E:TypeId}{a:Option Addr}{n cap:Nat}{l:List α}{A:ah}(H:Os E row (.slice a n cap) l A):(a.map (·.spot)=some none∨a=none)∧l.length≤cap:=by
 rcases H with⟨rfl,e,-⟩ | ⟨β,c,cap',J,e,-,-,h,-,-⟩
 ·cases e;exact⟨.inr rfl,Nat.le_refl _⟩
 ·cases e;exact⟨.inl rfl,h⟩
end Go.aS

/- All upside down. Conditions: none; no program in sight. -/
namespace Go.aS
set_option linter.unusedVariables false
end Go.aS

/- SyrupMirror. Conditions: none; over the given program. -/
namespace Go.aS
set_option maxRecDepth 100000
set_option maxHeartbeats 4000000
end Go.aS

/- What all the best shares say of a lot. Conditions: none; over the given program. -/
namespace Go.aS
set_option maxRecDepth 100000
set_option maxHeartbeats 4000000
end Go.aS

/- All lists of pans, and the shares among them. Conditions: none; no program in sight. -/
namespace Go.aS
set_option linter.unusedVariables false
theorem amM{m:Nat}:∀{k:Nat},af7 m (k+1)=(List.range m).flatMap fun y=>(af7 m k).map (y:: ·)
 | 0=>by
  show([[]]:List (List Nat)).flatMap _=_
  simp only[af7,List.flatMap_cons,List.flatMap_nil,List.append_nil,List.nil_append,List.map_cons,List.map_nil]
  rw[←List.map_eq_flatMap]
 | k+1=>by
  show(af7 m (k+1)).flatMap (fun l=>(List.range m).map fun y=>l++[y])=(List.range m).flatMap fun y=>((af7 m k).flatMap fun l=>(List.range m).map fun y=>l++[y]).map (y:: ·)
  rw[amM,List.flatMap_assoc]
  refine congrArg (fun f=>List.flatMap f _) (funext fun y=>?_)
  rw[List.flatMap_map,List.map_flatMap]
  refine congrArg (fun f=>List.flatMap f _) (funext fun l=>?_)
  rw[List.map_map];rfl
def al9(m k:Nat):List (List Int):=(aff m k).map fun g=>g.map (· - 1)
theorem ana{m:Nat}:al9 m 0=[[]]:=rfl
theorem amN{m k:Nat}:al9 (m+1) (k+1)=(al9 (m+1) k).map ((-1:Int):: ·)++(List.range m).flatMap fun(p:Nat)=>(al9 (m+1) k).map ((p:Int):: ·):=by
 rw[al9,afL,amM,List.range_succ_eq_map,List.flatMap_cons,List.map_append,List.map_append,List.flatMap_map,List.map_flatMap,List.map_flatMap]
 congr 1
 ·rw[al9,afL,List.map_map,List.map_map,List.map_map,List.map_map]
  exact List.map_congr_left fun v _=>by simp[zs]
 ·refine congrArg (fun f=>List.flatMap f _) (funext fun p=>?_)
  rw[al9,afL,List.map_map,List.map_map,List.map_map,List.map_map]
  refine List.map_congr_left fun v _=>?_
  simp only[Function.comp,zs,List.map_cons,List.cons.injEq,and_true]
  omega
def alZ(ps:List Pn):List Lt→List Int→List Int→Bool
 | l::ls,rs,a::x=>if a<0 then alZ ps ls rs x else(fits l rs a.toNat&&P9 ps l.qu a.toNat)&&alZ ps ls (less l rs a.toNat) x
 | _,_,_=>true
theorem anb{ps:List Pn}{q:Int}(h4:ps.length≤4)(hq:0≤q):bQ ps 0 q.toNat=(List.range ps.length).filter fun i=>P9 ps q i:=by
 have e:List.range 4=List.range ps.length++(List.range (4-ps.length)).map (ps.length+ ·):=by
  rw[←List.range_add];congr 1;omega
 have hn:((q.toNat:Nat):Int)=q:=Int.toNat_of_nonneg hq
 rw[bQ,e,List.filter_append,hn]
 have h1:((List.range (4-ps.length)).map (ps.length+ ·)).filter (fun i=>P9 ps q i&& !(0:Nat).testBit i)=[]:=by
  refine List.filter_eq_nil_iff.2 fun i hi=>?_
  obtain⟨j,-,rfl⟩:=List.mem_map.1 hi
  unfold P9
  rw[List.getElem?_eq_none (by omega)];simp
 rw[h1,List.append_nil]
 exact List.filter_congr fun i _=>by simp
theorem amQ{ps:List Pn}(h4:ps.length≤4):∀{ls:List Lt} {rs pre:List Int},(∀l∈ls,0≤l.qu)→Dv ps ls rs pre=((al9 (ps.length+1) ls.length).filter (alZ ps ls rs)).map (pre++ ·)
 | [],rs,pre,_=>by
  rw[Dv,List.length_nil,ana];simp[alZ]
 | l::ls,rs,pre,hq=>by
  have hq':∀l∈ls,0≤l.qu:=fun x hx=>hq x (List.mem_cons_of_mem _ hx)
  rw[Dv,List.length_cons,amN,List.filter_append,List.map_append,List.filter_map,List.map_map,amQ h4 hq',anb h4 (hq l (List.mem_cons_self ..))]
  congr 1
  ·rw[show(alZ ps (l::ls) rs∘((-1:Int):: ·))=alZ ps ls rs from funext fun x=>by simp[alZ]]
   exact List.map_congr_left fun x _=>by simp
  ·rw[List.filter_flatMap,List.map_flatMap]
   generalize List.range ps.length=R
   induction R with
   | nil=>rfl
   | cons p R ih=>
    rw[List.flatMap_cons,←ih,List.filter_cons]
    have e:((al9 (ps.length+1) ls.length).map ((p:Int):: ·)).filter (alZ ps (l::ls) rs)=if fits l rs p&&P9 ps l.qu p then((al9 (ps.length+1) ls.length).filter (alZ ps ls (less l rs p))).map ((p:Int):: ·)else[]:=by
     rw[List.filter_map]
     have e2:(alZ ps (l::ls) rs∘((p:Int):: ·))=fun x=>(fits l rs p&&P9 ps l.qu p)&&alZ ps ls (less l rs p) x:=funext fun x=>by
      show alZ ps (l::ls) rs ((p:Int)::x)=_
      rw[alZ,if_neg (by omega),Int.toNat_natCast]
     rw[e2]
     cases hft:fits l rs p&&P9 ps l.qu p
     ·simp
     ·simp
    rw[e]
    cases ht:P9 ps l.qu p
    ·simp[ht]
    ·cases hf:fits l rs p
     ·simp[ht,hf]
     ·simp only[ht,hf,if_true,Bool.and_self,List.flatMap_cons,if_true]
      rw[amQ h4 hq',List.map_map]
      congr 1
      exact List.map_congr_left fun x _=>by simp
theorem amV{ps:List Pn}{ls:List Lt}{rs:List Int}(h4:ps.length≤4)(hq:∀l∈ls,0≤l.qu):yS ps ls rs=(al9 (ps.length+1) ls.length).filter (alZ ps ls rs):=by
 rw[yS,amQ h4 hq]
 exact(List.map_congr_left fun x _=>List.nil_append x).trans (List.map_id _)
end Go.aS

/- SyrupShared. Conditions: none; over the given program. -/
namespace Go.aS
set_option maxRecDepth 100000
set_option maxHeartbeats 4000000
end Go.aS

/- SyrupShared: what is kept as all lists are gone through. Conditions: none; over the given program. -/
namespace Go.aS
set_option maxRecDepth 100000
set_option maxHeartbeats 4000000
def amS(ps:List Pn)(ls:List Lt)(rs:List Int)(i:Nat):List (List Int):=((al9 (ps.length+1) ls.length).take i).filter (alZ ps ls rs)
def StS(ps:List Pn)(ls:List Lt)(rs:List Int)(i:Nat)(w:Int)(B:List (List Int)):Prop:=
 (i=0∧w= -1∧B=[])∨(1≤i∧wE (Ba ls) (amS ps ls rs i)=(w,B)∧B≠[]∧0≤w)
theorem ams{m:Nat}:∀{k:Nat},(al9 (m+1) k)[0]? =some (List.replicate k (-1))
 | 0=>rfl
 | k+1=>by
  have ih:=ams (m:=m) (k:=k)
  rw[amN,List.getElem?_append_left (by
   rw[List.length_map]
   exact(List.getElem?_eq_some_iff.1 ih).1),List.getElem?_map,ih];rfl
theorem StS.all{ps:List Pn}{ls:List Lt}{rs:List Int}{w:Int}{B:List (List Int)}(h4:ps.length≤4)(hlo:Au ls)(H:StS ps ls rs (al9 (ps.length+1) ls.length).length w B):oZ ps ls rs=(w,B):=by
 rcases H with⟨h,-⟩ | ⟨-,h,-⟩
 ·have:=(List.getElem?_eq_some_iff.1 (ams (m:=ps.length) (k:=ls.length))).1
  omega
 ·rw[oZ,amV h4 (fun l hl=>(hlo.lot l hl).1),←h,amS,List.take_length]
end Go.aS

/- SyrupShared. Conditions: none; over the given program. -/
namespace Go.aS
set_option maxRecDepth 100000
set_option maxHeartbeats 4000000
theorem anr{ps:List Pn}{ls:List Lt}{rs:List Int}(hps:nV ps=0)(hl:ls.length≤4)(hlb:∀p∈ls,Ar p=false)(hr:rs.length=ps.length)(hrb:∀r∈rs,0≤r∧r≤20):ji ps ls rs=0:=by
 have h1:Ig ls=0:=by
  rw[Ig,if_neg (by omega),if_neg]
  rw[List.any_eq_true]
  rintro⟨p,hp,h⟩
  rw[hlb p hp]at h;cases h
 have h2:K_ ps.length rs=0:=by
  rw[K_,if_neg (by omega),if_neg (by omega),if_neg]
  rw[List.any_eq_true]
  rintro⟨r,hr,h⟩
  have:=hrb r hr
  rw[decide_eq_true_iff]at h
  unfold outs at h;omega
 rw[ji,if_neg (by rw[hps];simp),if_neg (by rw[h1];simp),h2]
end Go.aS

/- Lots and room that are checked, as the document has it. Conditions: none; over the given program. -/
namespace Go.aS
set_option maxRecDepth 100000
set_option maxHeartbeats 4000000
end Go.aS

/- A way through the pans, as the document has it. Conditions: none; over the given program. -/
namespace Go.aS
set_option maxRecDepth 100000
set_option maxHeartbeats 4000000
end Go.aS

/- Layers: from where the goal is reached in n pans, one pan left out. Conditions: none. -/
namespace Go.aS
def apy(ps:List Pn)(w:Int)(S:Nat→Bool):Nat→Nat→Bool
 | 0,q=>S q
 | n+1,q=>(List.range ps.length).any fun i=>decide ((i:Int)≠w)&&P9 ps q i&&apy ps w S n (gy ps i q)
end Go.aS

/- Where pans lead for ever, as the document has it. Conditions: none; over the given program. -/
namespace Go.aS
set_option maxRecDepth 100000
set_option maxHeartbeats 4000000
end Go.aS

/- Layers, as the document has them. Conditions: none; over the given program. -/
namespace Go.aS
set_option maxRecDepth 100000
set_option maxHeartbeats 4000000
abbrev svB(β:Nat):Sv:=⟨some ⟨β,0,none⟩,13,13⟩
def aqI(ps:List Pn)(w:Int)(S:Nat→Bool)(vs:List Sv)(n:Nat)(A:ah):Prop:=Shut A∧∀k,k<n→∃β,vs[k]? =some (svB β)∧(β,bsO (apy ps w S k))∈A
theorem aqI.fin{ps:List Pn}{w:Int}{S:Nat→Bool}{vs:List Sv}{n β:Nat}{A:ah}(h:aqI ps w S vs n A)(hs:vs[n]? =some (svB β)):aqI ps w S vs (n+1) ((β,bsO (apy ps w S n))::A):=by
 refine⟨.cons rfl h.1,fun k hk=>?_⟩
 rcases Nat.lt_or_ge k n with h1 | h1
 ·obtain⟨β',hb,hm⟩:=h.2 k h1
  exact⟨β',hb,.tail _ hm⟩
 ·obtain rfl:k=n:=by omega
  exact⟨β,hs,.head _⟩
end Go.aS

/- The way that the document goes by layers. Conditions: none. -/
namespace Go.aS
end Go.aS

/- The way by layers, as the document has it. Conditions: none; over the given program. -/
namespace Go.aS
set_option maxRecDepth 100000
set_option maxHeartbeats 4000000
end Go.aS

/- The shortest ring, as the document has it: the same as the program's. Conditions: none; over the given program. -/
namespace Go.aS
set_option maxRecDepth 100000
set_option maxHeartbeats 4000000
end Go.aS

/- The shortest way, as the document has it: the same as the program's. Conditions: none; over the given program. -/
namespace Go.aS
set_option maxRecDepth 100000
set_option maxHeartbeats 4000000
end Go.aS

/- For ever, as the document has it. Conditions: none; over the given program. -/
namespace Go.aS
set_option maxRecDepth 100000
set_option maxHeartbeats 4000000
end Go.aS

/- The longest way and how many ways there are, as the document has them. Conditions: none; over the given program. -/
namespace Go.aS
set_option maxRecDepth 100000
set_option maxHeartbeats 4000000
end Go.aS

/- How many ways there are, as the document has it. Conditions: none; over the given program. -/
namespace Go.aS
set_option maxRecDepth 100000
set_option maxHeartbeats 4000000
end Go.aS

/- Where it may end, as the document has it. Conditions: none; over the given program. -/
namespace Go.aS
set_option maxRecDepth 100000
set_option maxHeartbeats 4000000
end Go.aS

/- Layers without one pan: the graph that has this pan shut. Conditions: none. -/
namespace Go.aS
end Go.aS

/- Pans that are forced, as the document has it. Conditions: none; over the given program. -/
namespace Go.aS
set_option maxRecDepth 100000
set_option maxHeartbeats 4000000
theorem asW{ps:List Pn}{c q:Nat}(hq:q<13):(shF ps c q).isSome=(List.range 14).any fun n=>P7 (dO ps c) (fun k:Nat=>dY ps k) n q:=by
 have h:=(agV (g:=dO ps c) afX (q:=q) F9 (T:=fun k=>dY ps k) (lo:=0) (by omega) hq).1
 have e1:afW (dO ps c) (fun k=>dY ps k) 0 q=shF ps c q:=by
  rw[afW,shF];refine congrArg (fun f=>List.find? f _) (funext fun w=>?_)
  simp
 rw[e1]at h
 have e2:(shF ps c q).isSome=(afV (dO ps c) (fun k=>dY ps k) 0 q).isSome:=by rw[h];cases shF ps c q <;>rfl
 rw[e2,afV,Option.isSome_map,Bool.eq_iff_iff,List.find?_isSome,List.any_eq_true]
 constructor
 ·rintro⟨n,h1,h2⟩;exact⟨n,(List.mem_filter.1 h1).1,h2⟩
 ·rintro⟨n,h1,h2⟩;exact⟨n,List.mem_filter.2 ⟨h1,by simp⟩,h2⟩
end Go.aS

/- All ascending lists of so many numbers, as the document makes them. Conditions: none; no program in sight. -/
namespace Go.aS
set_option linter.unusedVariables false
set_option maxRecDepth 100000
end Go.aS

/- Which pans to close, as the document has it. Conditions: none; over the given program. -/
namespace Go.aS
set_option maxRecDepth 100000
set_option maxHeartbeats 4000000
end Go.aS

/- Shares as the document makes them. Conditions: none; no program in sight. -/
namespace Go.aS
set_option linter.unusedVariables false
theorem auz{ps:List Pn}{q:Nat}(h4:ps.length≤4):bQ ps 0 q=(List.range ps.length).filter fun i=>P9 ps q i:=by
 obtain⟨d,hd⟩:∃d,4=ps.length+d:=⟨4-ps.length,by omega⟩
 rw[bQ,hd,List.range_add,List.filter_append]
 have e1:((List.range d).map (ps.length+ ·)).filter (fun i=>P9 ps q i&& !(0:Nat).testBit i)=[]:=by
  rw[List.filter_eq_nil_iff]
  intro i hi h
  obtain⟨x,-,rfl⟩:=List.mem_map.1 hi
  simp only[Bool.and_eq_true]at h
  have:=h.1
  unfold P9 at this
  rw[List.getElem?_eq_none (by omega)]at this;cases this
 rw[e1,List.append_nil]
 exact List.filter_congr fun i _=>by simp
end Go.aS

/- All shares, as the document has them. Conditions: none; over the given program. -/
namespace Go.aS
set_option maxRecDepth 100000
set_option maxHeartbeats 4000000
theorem UG.app{α:Type}{row:α→List Value}{w:Nat}[Rw row w]{E:TypeId}{vs vs':List Sv}{ls ls':List (List α)}{A A':ah}(h:UG E row vs ls A)(h':UG E row vs' ls' A'):UG E row (vs++vs') (ls++ls') (A++A'):=by
 induction h with
 | nil=>exact h'
 | cons h1 _ ih=>rw[List.append_assoc];exact .cons h1 ih
end Go.aS

/- The room that is needed. Conditions: none; no program in sight. -/
namespace Go.aS
set_option linter.unusedVariables false
abbrev auy(ls:List Lt):Prop:=∀l∈ls,0≤l.qu∧l.qu≤12∧1≤l.po∧l.po≤9
theorem auC{ps:List Pn}{ls:List Lt}{rs pre s:List Int}{a:Int}(h:s∈Dv ps ls rs (pre++[a])):s.drop pre.length=a::s.drop (pre++[a]).length:=by
 have q:=(Ot h).2.1
 have e:s=(pre++[a])++s.drop (pre++[a]).length:=by
  conv=>lhs;rw[←List.take_append_drop (pre++[a]).length s,q]
 conv=>lhs;rw[e,List.append_assoc,List.drop_left]
 rfl
theorem avf{rs:List Int}{p i:Nat}{a:Int}(hp:p<rs.length):(rs.set p a).getD i 0=if i=p then a else rs.getD i 0:=by
 simp only[List.getD_eq_getElem?_getD,List.getElem?_set]
 by_cases h:p=i
 ·subst h;simp[hp]
 ·rw[if_neg h,if_neg fun e=>h e.symm]
theorem auD{ps:List Pn}{ls:List Lt}{rs:List Int}:∃s∈yS ps ls rs,Ba ls s=(oZ ps ls rs).1:=by
 have h1:lY (Ba ls) (yS ps ls rs) (oZ ps ls rs):=EU qX
 obtain⟨x,hx⟩:=List.exists_mem_of_ne_nil _ (h1.ne Ou)
 rw[h1.eq]at hx
 obtain⟨a,b⟩:=List.mem_filter.1 hx
 exact⟨x,a,of_decide_eq_true b⟩
end Go.aS

/- The best shares, as the document has them. Conditions: none; over the given program. -/
namespace Go.aS
set_option maxRecDepth 100000
set_option maxHeartbeats 4000000
theorem UG.sub{α:Type}{row:α→List Value}{w:Nat}[Rw row w]{E:TypeId}{vs:List Sv}{ls:List (List α)}{A:ah}(h:UG E row vs ls A):∀{Z:List (Sv×List α)},Z.Sublist (vs.zip ls)→∃B,UG E row (Z.map (·.1)) (Z.map (·.2)) B∧Sb B A:=by
 induction h with
 | nil=>
  intro Z hZ
  cases hZ
  exact⟨[],.nil,.refl⟩
 | cons h1 h2 ih=>
  intro Z hZ
  rw[List.zip_cons_cons]at hZ
  cases hZ with
  | cons _ hZ=>
   obtain⟨B,h3,h4⟩:=ih hZ
   exact⟨B,h3,.left h4 h1.shut⟩
  | cons_cons _ hZ=>
   obtain⟨B,h3,h4⟩:=ih hZ
   exact⟨_,.cons h1 h3,.app .refl h4⟩
end Go.aS

/- copy within a block of one's own. Conditions: none; over any program. -/
namespace Go.aS
variable{x:Cx}{Q:Post}{ρ:Env}{F:ah}{o:Oper}{R:Value→ah→Prop}
theorem At.mem{b:Nat}{o:Obj}{F:ah}{U:Obj→ah}(h:At b o F U):(b,o)∈F:=by
 obtain⟨F1,F2,rfl,-⟩:=h.split
 exact List.mem_append_right _ (.head _)
end Go.aS

/- slices.Repeat, of one number. Conditions: none; over the given program. -/
namespace Go.aS
set_option maxRecDepth 100000
set_option maxHeartbeats 4000000
section
variable{x:Cx}{ρ:Env}{F:ah}{o:Oper}{R:Value→ah→Prop}
end
end Go.aS

/- Marks of loops over functions, at a way out. Conditions: none; over any program. -/
namespace Go.aS
end Go.aS

/- The room that is needed, as the document has it and as the program has it. Conditions: none; over the given program. -/
namespace Go.aS
set_option maxRecDepth 100000
set_option maxHeartbeats 4000000
end Go.aS

/- The room that is needed, as the program has it. Conditions: none; over the given program. -/
namespace Go.aS
set_option maxRecDepth 100000
set_option maxHeartbeats 4000000
end Go.aS

/- The same pans under other numbers. Conditions: none; no program in sight. -/
namespace Go.aS
set_option linter.unusedVariables false
structure Ren(ps os:List Pn)(f g:Nat→Nat):Prop where
 len:os.length=ps.length
 fl:∀i,i<ps.length→f i<ps.length
 gl:∀i,i<ps.length→g i<ps.length
 gf:∀i,i<ps.length→g (f i)=i
 fg:∀i,i<ps.length→f (g i)=i
 gets:∀i,i<ps.length→os[f i]? =ps[i]?
variable{ps os:List Pn}{f g:Nat→Nat}
theorem Ren.symm(h:Ren ps os f g):Ren os ps g f:=
 ⟨h.len.symm,fun i hi=>by rw[h.len]at hi⊢;exact h.gl i hi,fun i hi=>by rw[h.len]at hi⊢;exact h.fl i hi,fun i hi=>h.fg i (h.len▸hi),fun i hi=>h.gf i (h.len▸hi),fun i hi=>by
  rw[h.len]at hi
  rw[←h.gets (g i) (h.gl i hi),h.fg i hi]⟩
theorem Ren.tk(h:Ren ps os f g){q:Int}{i:Nat}(hi:i<ps.length):P9 os q (f i)=P9 ps q i:=by
 unfold P9;rw[h.gets i hi]
theorem Ren.gy(h:Ren ps os f g){q i:Nat}(hi:i<ps.length):gy os (f i) q=gy ps i q:=by
 unfold Go.aS.gy;rw[h.gets i hi]
theorem Ren.mem(h:Ren ps os f g){p:Pn}(hp:p∈ps):p∈os:=by
 obtain⟨i,hi⟩:=List.getElem?_of_mem hp
 have hl:=(List.getElem?_eq_some_iff.1 hi).1
 exact List.mem_of_getElem? ((h.gets i hl).trans hi)
theorem Ren.trc(h:Ren ps os f g){q:Int}:dY os q=dY ps q:=by
 rw[Bool.eq_iff_iff,dY,dY,List.all_eq_true,List.all_eq_true]
 exact⟨fun h1 p hp=>h1 p (h.mem hp),fun h1 p hp=>h1 p (h.symm.mem hp)⟩
theorem Ren.axh(h:Ren ps os f g)(h4:ps.length≤4){c c':Nat}(hc:∀i,i<ps.length→c'.testBit (f i)=c.testBit i){q o:Nat}(hs:stp (dO ps c) q o):stp (dO os c') q o:=by
 rw[ai2 h4]at hs
 rw[ai2 (by rw[h.len];exact h4)]
 obtain⟨i,x,hx,h1,h2,h3⟩:=hs
 have hl:=(List.getElem?_eq_some_iff.1 hx).1
 exact⟨f i,x,(h.gets i hl).trans hx,(hc i hl).trans h1,h2,h3⟩
theorem Ren.stp(h:Ren ps os f g)(h4:ps.length≤4){c c':Nat}(hc:∀i,i<ps.length→c'.testBit (f i)=c.testBit i)(q o:Nat):stp (dO ps c) q o↔stp (dO os c') q o:=
 ⟨h.axh h4 hc,h.symm.axh (by rw[h.len];exact h4) fun i hi=>by
  rw[h.len]at hi
  rw[←hc (g i) (h.gl i hi),h.fg i hi]⟩
theorem Ren.way(h:Ren ps os f g)(h4:ps.length≤4){n q:Nat}:dD (dO ps 0) n q=dD (dO os 0) n q:=
 ajH (h.stp h4 fun i _=>by simp)
theorem Ren.rng(h:Ren ps os f g):((List.range ps.length).map f).Perm (List.range ps.length):=by
 have hn:((List.range ps.length).map f).Nodup:=VI List.nodup_range fun a ha b hb e=>by
  rw[←h.gf a (List.mem_range.1 ha),e,h.gf b (List.mem_range.1 hb)]
 refine(List.perm_ext_iff_of_nodup hn List.nodup_range).2 fun a=>?_
 rw[List.mem_map]
 constructor
 ·rintro⟨i,hi,rfl⟩;exact List.mem_range.2 (h.fl i (List.mem_range.1 hi))
 ·intro ha
  exact⟨g a,List.mem_range.2 (h.gl a (List.mem_range.1 ha)),h.fg a (List.mem_range.1 ha)⟩
theorem Ren.flt(h:Ren ps os f g){P P':Nat→Bool}(hP:∀i,i<ps.length→P' (f i)=P i):((List.range os.length).filter P').Perm (((List.range ps.length).filter P).map f):=by
 rw[h.len]
 have h1:=(h.rng.filter P').symm
 rw[List.filter_map]at h1
 refine h1.trans (.of_eq ?_)
 congr 1
 exact List.filter_congr fun i hi=>hP i (List.mem_range.1 hi)
theorem Ren.outs(h:Ren ps os f g)(h4:ps.length≤4){q:Nat}:((dO os 0 q).map (·.2)).Perm ((dO ps 0 q).map (·.2)):=by
 have e:∀{xs:List Pn},xs.length≤4→(dO xs 0 q).map (·.2)=((List.range xs.length).filter fun i=>P9 xs q i).map fun i=>Go.aS.gy xs i q:=fun{xs} hx=>by
  rw[dO,auz hx,List.map_map];rfl
 rw[e h4,e (by rw[h.len];exact h4)]
 refine((h.flt (P:=fun i=>P9 ps q i) (P':=fun i=>P9 os q i) fun i hi=>h.tk hi).map _).trans (.of_eq ?_)
 rw[List.map_map]
 refine List.map_congr_left fun i hi=>?_
 exact h.gy (List.mem_range.1 (List.mem_filter.1 hi).1)
theorem Ren.qN(h:Ren ps os f g)(h4:ps.length≤4){T:Nat→Bool}:∀{n q:Nat},qN (dO os 0) T n q=qN (dO ps 0) T n q
 | 0,q=>rfl
 | n+1,q=>by
  have e:∀{G:yV} (l:List (Nat×Nat)) (a:Nat×Nat),l.foldl (fun a po=>(max a.1 ((Go.aS.qN G T n po.2).1+1),a.2+(Go.aS.qN G T n po.2).2)) a=(l.map (·.2)).foldl (fun a o=>(max a.1 ((Go.aS.qN G T n o).1+1),a.2+(Go.aS.qN G T n o).2)) a:=fun l a=>by
   rw[List.foldl_map]
  rw[Go.aS.qN,Go.aS.qN,e,e]
  have e2:(fun(a:Nat×Nat) (o:Nat)=>(max a.1 ((Go.aS.qN (dO os 0) T n o).1+1),a.2+(Go.aS.qN (dO os 0) T n o).2))=fun a o=>(max a.1 ((Go.aS.qN (dO ps 0) T n o).1+1),a.2+(Go.aS.qN (dO ps 0) T n o).2):=by
   funext a o;rw[h.qN h4]
  rw[e2]
  refine(h.outs h4).foldl_eq' (fun x _ y _ z=>?_) _
  refine Prod.ext ?_ ?_
  ·simp only;omega
  ·simp only;omega
theorem Ren.fin(h:Ren ps os f g)(h4:ps.length≤4){q:Nat}:og (dO os 0) (fun k=>dY os k) q=og (dO ps 0) (fun k=>dY ps k) q:=by
 have e:(fun k:Nat=>dY os (k:Int))=fun k:Nat=>dY ps k:=funext fun k=>h.trc
 rw[e];exact h.qN h4
theorem Ren.sh1(h:Ren ps os f g)(h4:ps.length≤4):∀{ls:List Lt} {rs rs' pre pre' s:List Int},rs.length=ps.length→rs'.length=ps.length→(∀i,i<ps.length→rs'.getD (f i) 0=rs.getD i 0)→s∈Dv ps ls rs pre→∃s',s'∈Dv os ls rs' pre'∧Ba ls (s'.drop pre'.length)=Ba ls (s.drop pre.length)
 | [],rs,rs',pre,pre',s,_,_,_,hs=>⟨pre',by simp[Dv],by simp[Ba]⟩
 | l::ls,rs,rs',pre,pre',s,hn,hn',hr,hs=>by
  simp only[Dv,List.mem_append,List.mem_flatMap]at hs
  rcases hs with hs | ⟨p,hp,hs⟩
  ·obtain⟨s',h1,h2⟩:=h.sh1 h4 (pre':=pre'++[-1]) hn hn' hr hs
   refine⟨s',?_,?_⟩
   ·rw[Dv];exact List.mem_append_left _ h1
   ·rw[auC hs,auC h1];simp only[Ba];rw[h2]
  ·split at hs
   ·rename_i hf
    have hpl:p<ps.length:=by
     rw[auz h4]at hp;exact List.mem_range.1 (List.mem_filter.1 hp).1
    have hfp:=h.fl p hpl
    have hf':fits l rs' (f p)=true:=by
     unfold fits at hf⊢;rw[hr p hpl];exact hf
    obtain⟨s',h1,h2⟩:=h.sh1 h4 (pre':=pre'++[(f p:Int)]) (rs':=less l rs' (f p)) (by rw[Qs,hn]) (by rw[Qs,hn']) (fun i hi=>by
     rw[less,less,avf (by omega),avf (by omega),hr p hpl,hr i hi]
     by_cases hip:i=p
     ·subst hip;rw[if_pos rfl,if_pos rfl]
     ·rw[if_neg hip,if_neg fun e=>hip (by rw[←h.gf i hi,e,h.gf p hpl])]) hs
    refine⟨s',?_,?_⟩
    ·rw[Dv]
     refine List.mem_append_right _ (List.mem_flatMap.2 ⟨f p,?_,by rw[if_pos hf'];exact h1⟩)
     rw[auz (by rw[h.len];exact h4),List.mem_filter]
     refine⟨List.mem_range.2 (by rw[h.len];exact hfp),?_⟩
     rw[h.tk hpl];exact(Ak.1 hp).2.1
    ·rw[auC hs,auC h1];simp only[Ba];rw[h2,if_pos (by omega),if_pos (by omega)]
   ·cases hs
theorem Ren.awN(h:Ren ps os f g)(h4:ps.length≤4){ls:List Lt}{rs rs':List Int}(hn:rs.length=ps.length)(hn':rs'.length=ps.length)(hr:∀i,i<ps.length→rs'.getD (f i) 0=rs.getD i 0):(oZ ps ls rs).1≤(oZ os ls rs').1:=by
 obtain⟨s,h1,h2⟩:=auD (ps:=ps) (ls:=ls) (rs:=rs)
 obtain⟨s',h3,h4'⟩:=h.sh1 h4 (pre':=[]) hn hn' hr h1
 rw[List.length_nil,List.drop_zero,List.drop_zero]at h4'
 rw[←h2,←h4']
 exact(EU (f:=Ba ls) (xs:=yS os ls rs') qX).le s' h3
theorem Ren.best(h:Ren ps os f g)(h4:ps.length≤4){ls:List Lt}{rs rs':List Int}(hn:rs.length=ps.length)(hn':rs'.length=ps.length)(hr:∀i,i<ps.length→rs'.getD (f i) 0=rs.getD i 0):(oZ ps ls rs).1=(oZ os ls rs').1:=
 Int.le_antisymm (h.awN h4 hn hn' hr) (h.symm.awN (by rw[h.len];exact h4) (by rw[hn',h.len]) (by rw[hn,h.len]) fun i hi=>by
  rw[h.len]at hi
  rw[←hr (g i) (h.gl i hi),h.fg i hi])
end Go.aS

/- Some order of numbers; pans under other numbers. Conditions: none; over the given program. -/
namespace Go.aS
set_option maxRecDepth 100000
set_option maxHeartbeats 4000000
section
variable{x:Cx}{ρ:Env}{F:ah}{o:Oper}{R:Value→ah→Prop}
theorem avX{t E s by' n:Nat}{z:Value}{zc C:Array Value}{y y':Operand}(ho:o.op= .makeSlice t y y')[TD x.P t (.slice E)][TI x.P E s by' z zc](hy:ev ρ y=some (.int .i64 (n:Int)))(hy':ev ρ y'=some (.int .i64 (n:Int)))(hb:by'*n≤2 ^ 48∧n≤1000000)(hs:0<s)
  (hC:(Array.range (n*s)).map (fun i=>zc[i % zc.size]!)=C)
  (K:∀β,R (.slice (some ⟨β,0,none⟩) n n) ((β,.cells C E (0,0))::F)):Ef x ρ o F R:=
 Ef.xW fun e he h' hE=>by
  obtain⟨j,hj,hj1,hj2,hj3,hj4⟩:=TI.out (inferInstance:TI x.P E s by' z zc)
  have hw:IntKind.i64.wrap (n:Int)=n:=nC (by omega) (by omega)
  have c1:¬((n:Int)<0):=by omega
  have c2:¬((by':Int)*(n:Int)>2 ^ 48):=by
                             have:((by'*n:Nat):Int)≤2 ^ 48:=by exact_mod_cast hb.1
                             rw[Int.natCast_mul]at this;omega
  have c3:¬((n:Int)>n):=by omega
  simp only[execOp,ho,he y _ hy,he y' _ hy',Instr.makeSlice,asInt,asIntOf,bind_eq,au,bind_assoc,bind_pure,aC,dJ hj,hj2,hw]
  simp only[c1,c2,c3,decide_false,Bool.or_false,Bool.false_eq_true,if_false]
  have room:∀{β:Type} {f:Unit→Sem β} {Q':β→ah→Prop},tr x.P h' (f ()) F Q'→tr x.P h' ((askRoom (((n:Int).toNat)*by')).bind f) F Q':=by
   intro β f Q' H
   unfold askRoom
   split
   ·exact⟨rfl,H⟩
   ·exact H
  refine bJ (room ?_)
  simp only[dH,Int.toNat_natCast]
  by_cases h0:n=0
  ·subst h0
   have e0:(Array.range (0*s)).map (fun x=>(#[]:Array Value)[x % (#[]:Array Value).size]!)=C:=by rw[←hC];simp
   have e1:0*s=0:=Nat.zero_mul s
   simp only[e1]at e0⊢
   simp only[if_true,newRow,bind_eq,au,bind_assoc,bind_pure,e0]
   exact wI fun r h1 h2=>⟨_,.inl rfl,K r⟩
  ·have h9:¬n*s=0:=by
    intro h
    rcases Nat.mul_eq_zero.1 h with h | h
    ·exact h0 h
    ·omega
   simp only[if_neg h9,fG,hj4,newRow,bind_eq,au,bind_assoc,bind_pure,hC]
   exact wI fun r h1 h2=>⟨_,.inl rfl,K r⟩
end
theorem avY{x:Cx}{ρ:Env}{F:ah}{o:Oper}{v:Value}{R:Value→ah→Prop}(hy:Yv x (· =F) ρ o v)(K:R v F):Ef x ρ o F R:=Ef.xW fun e he h' hE=>lM (hy e he F rfl h' hE) fun nx F' h=>⟨v,.inl h.1,h.2▸K⟩
theorem Part.axi{c:Array Value}{X:List Pn}{i:Nat}{p:Pn}(h:Part c 0 (flat Pn.row X))(hi:i<X.length):Part (jv c (0+i*3) (Pn.row p)) 0 (flat Pn.row (X.set i p)):=by
 have hp:X[i]? =some X[i]:=List.getElem?_eq_getElem hi
 have h1:=h.setRow hp (j:=0) (v:=I p.lo) (p':=⟨p.lo,X[i].hi,X[i].sh⟩) (by decide) rfl
 have h2:=h1.setRow (i:=i) (p:=⟨p.lo,X[i].hi,X[i].sh⟩) (j:=1) (v:=I p.hi) (p':=⟨p.lo,p.hi,X[i].sh⟩) (by rw[List.getElem?_set_self hi]) (by decide) rfl
 have h3:=h2.setRow (i:=i) (p:=⟨p.lo,p.hi,X[i].sh⟩) (j:=2) (v:=I p.sh) (p':=p) (by rw[List.getElem?_set_self (by rw[List.length_set];exact hi)]) (by decide) rfl
 rw[List.set_set,List.set_set]at h3
 rw[Nat.zero_add]
 exact h3
theorem awp{vm:Value}{rs:List Int}{R:ah}(h:Os 3 fH vm rs R):∃o,RmV o rs.length vm∧Sb (Iu o rs) R∧(∀y,o=some y→∃cap,vm= .slice (some ⟨y.1,0,none⟩) rs.length cap∧rs.length+y.2.length=cap):=by
 rcases h with⟨rfl,rfl,h⟩ | ⟨β,c,cap,J,rfl,rfl,h1,h2,h3,h⟩
 ·exact⟨none,⟨rfl,rfl⟩,.nil h,fun y hy=>by cases hy⟩
 ·rw[YE]at h3
  obtain⟨tl,rfl⟩:=VE h3
  refine⟨some (β,tl),⟨cap,rfl⟩,.cons (.nil h),fun y hy=>?_⟩
  cases hy
  exact⟨cap,rfl,by simpa using h1⟩
theorem axk{β:Nat}{tl:List Value}{l:List Int}{n cap:Nat}(hl:l.length=n)(hc:n+tl.length=cap):Os dL fH (.slice (some ⟨β,0,none⟩) n cap) l [(β,QK tl l)]:=
 .inr ⟨β,_,cap,[],by rw[hl],rfl,by simp;omega,by omega,by rw[YE];exact⟨[],tl,rfl,rfl⟩,.nil⟩
theorem swap_perm{l:List Int}{i k:Nat}{x y:Int}(hi:l[i]? =some x)(hk:l[k]? =some y):((l.set i y).set k x).Perm l:=by
 obtain⟨h1,e1⟩:=List.getElem?_eq_some_iff.1 hi
 obtain⟨h2,e2⟩:=List.getElem?_eq_some_iff.1 hk
 have:((l.set i l[k]).set k l[i]).Perm l:=List.set_set_perm h1 h2
 rw[e1,e2]at this
 exact this
theorem awh(main:Side)(h:Hp)(nums:List Int)(lv:Value)(b k:Nat)(s:Int)(n:Nat)(hl:Sl h fH lv nums)(hk:k≤100000)(hn:n≤30):dV prog main avK #[bI b,I n] h [(b,wF lv k s)]
  (fun v A=>∃os Sp k' s',Os dL fH v os Sp∧(os.length=n∧os.Perm (zs (List.range n)))∧k'≤k+100∧Sb ((b,wF lv k' s')::Sp) A):=by
 refine dV.aG avN rfl (by show 2≤42;decide) [(0,bI b),(1,I n)] ⟨rfl,rfl,trivial⟩ ?_
 refine W.seq<|W.region rfl<|agb rfl rfl rfl<|pq<|W.seq<|W.region rfl<|agb rfl rfl rfl<|pq ?_
 refine W.seq<|W.seq<|W.region rfl<|agb rfl rfl rfl<|pq<|W.block ?_
 refine W.loop (σ:=Nat×Value×ah) (fun t=>t.1≤n∧Os dL fH t.2.1 (zs (List.range t.1)) t.2.2) (fun t=>[(6,I t.1),(5,t.2.1),(0,bI b),(1,I n)]) (fun t=>(b,wF lv k s)::t.2.2) (fun t=>n-t.1) (0,.slice none 0 0,[]) ⟨Nat.zero_le _,.nil .nil⟩ ⟨rfl,rfl,rfl,rfl,trivial⟩ .refl ?_
 rintro⟨i,v,Sp⟩ ⟨hi,hO⟩
 dsimp only at*
 refine W.seq<|W.seq<|W.region rfl<|qm rfl rfl rfl<|qm rfl rfl rfl ?_
 refine agW (fO rfl rfl rfl) rfl ?_
 refine pq ?_
 refine W.bC rfl (fun c11=>?_) (fun c11=>?_)
 ·have hil:i<n:=by omega
  have hzl:(zs (List.range i)).length=i:=by rw[kT,List.length_range]
  refine W.skip<|aA<|W.seq<|W.block<|W.region rfl<|qm rfl rfl rfl<|qm rfl rfl rfl ?_
  refine Ops.NK (cs:= #[I i]) (fun Ye=>?_) rfl
  refine oe rfl wn rfl rfl (iW (row:=fH) (l':=[(i:Int)]) rfl rfl rfl hO (.tail (.tail .all)) (fun h2 _ hl=>Sl.mk (hl Ye _ (.head _)) rfl (Part.all [I i])) (by rw[hzl];simp;omega) (by decide) rfl (fun v' S' Ie=>?_))
  refine agb rfl rfl rfl<|Ops.nil<|dI<|aA<|W.region rfl<|qm rfl rfl rfl ?_
  refine ag1 rfl ?_
  refine agb rfl rfl rfl<|pq ?_
  exact⟨rfl,(i+1,v',S'),⟨hil,by dsimp only;rw[List.range_succ,X3];exact Ie⟩,by dsimp only;omega,⟨rfl,rfl,rfl,rfl,trivial⟩,.skip rfl .refl⟩
 ·obtain rfl:i=n:=by omega
  have hzl:(zs (List.range i)).length=i:=by rw[kT,List.length_range]
  obtain⟨o,hrm,axC,aq2⟩:=awp hO
  rw[hzl]at hrm
  rw[hzl]at aq2
  refine W.exit<|bP<|bP<|gG<|aA<|W.seq<|W.seq<|W.region rfl<|qm rfl rfl rfl ?_
  refine ag5 rfl ?_
  refine agb rfl rfl rfl<|pq<|W.block ?_
  refine W.loop (σ:=Int×List Int×Nat×Int) (fun t=> -1≤t.1∧t.1<i∧t.2.1.Perm (zs (List.range i))∧(t.2.2.1:Int)+t.1+1=k+i) (fun t=>[(7,I t.1),(5,v),(0,bI b),(1,I i)]) (fun t=>(b,wF lv t.2.2.1 t.2.2.2)::Iu o t.2.1) (fun t=>t.1.toNat) ((i:Int)-1,zs (List.range i),k,s) ⟨by dsimp only;omega,by dsimp only;omega,.refl _,by dsimp only;omega⟩ ⟨rfl,rfl,rfl,rfl,trivial⟩ (.cons axC) ?_
  rintro⟨j,l,k1,s1⟩ ⟨hj1,hj2,hpm,hk1⟩
  dsimp only at*
  have hll:l.length=i:=by rw[hpm.length_eq,hzl]
  refine W.seq<|W.seq<|W.region rfl<|qm rfl rfl rfl ?_
  refine agW (rC rfl rfl rfl) rfl ?_
  refine pq ?_
  refine W.bC rfl (fun c21=>?_) (fun c21=>?_)
  ·obtain⟨j,rfl⟩:∃m:Nat,j=m:=⟨j.toNat,by omega⟩
   obtain⟨y,rfl⟩:∃y,o=some y:=by
    cases o with
    | none=>have:=hrm.1;omega
    | some y=>exact⟨y,rfl⟩
   obtain⟨βr,tl⟩:=y
   obtain⟨cap5,rfl⟩:=hrm
   clear aq2
   refine W.sb (F':=[(b,wF lv k1 s1),(βr,QK tl l)]) .refl ?_
   refine W.skip<|aA<|W.seq<|W.block<|W.seq<|W.region rfl<|qm rfl rfl rfl<|qm rfl rfl rfl ?_
   refine cg (A:=[(b,wF lv k1 s1)]) .head (fun h' hE hL=>UC _ h' nums lv b k1 s1 j (hl.ext hE) (by omega) (by omega)) (fun v A' hv=>?_)
   obtain⟨r,s2,rfl,hr,hsb⟩:=hv
   obtain⟨m,rfl⟩:∃m:Nat,r=m:=⟨r.toNat,by omega⟩
   have hml:m<i:=by omega
   refine Ops.sb (F':=[(b,wF lv (k1+1) s2),(βr,QK tl l)]) (by simpa using hsb.app (.refl (A:=[(βr,QK tl l)]))) ?_
   have hjl:j<i:=by omega
   have hrj:=YC (tl:=tl) (rs:=l) (p:=j) (by omega)
   have axm:=YC (tl:=tl) (rs:=l) (p:=m) (by omega)
   have hsj:=Uy (tl:=tl) (rs:=l) (p:=j) (by omega)
   have hsm:=Uy (tl:=tl) (rs:=l.set j (l.getD m 0)) (p:=m) (by rw[List.length_set];omega)
   refine agb rfl rfl rfl<|pq ?_
   refine W.mono (Q:=(fun e ρ' ds' F'=>e= .normal∧ds'=[]∧Sub [(7,I j),(5,.slice (some ⟨βr,0,none⟩) i cap5),(0,bI b),(1,I i)] ρ'∧Sb [(b,wF lv (k1+1) s2),(βr,QK tl ((l.set j (l.getD m 0)).set m (l.getD j 0)))] F')) ?_ ?_
   ·refine W.DR [] (n:=16) rfl ?_
    refine xq 0 (aN rfl rfl) rfl ?_
    refine xq 1 (aN rfl rfl) rfl ?_
    refine xq 2 (aN rfl rfl) rfl ?_
    refine xq 3 (aN rfl rfl) rfl ?_
    refine xq 4 (aN rfl rfl) rfl ?_
    refine xq 5 (aN rfl rfl) rfl ?_
    first | refine xq 6 (G_ rfl rfl rfl) rfl ?_ | refine xq 6 (o_ rfl rfl rfl) rfl ?_
    refine xq 8 (aN rfl rfl) rfl ?_
    refine xq 9 (aN rfl rfl) rfl ?_
    first | refine xq 10 (G_ rfl rfl rfl) rfl ?_ | refine xq 10 (o_ rfl rfl rfl) rfl ?_
    refine Any.WB (i:=7) (j:=11) (by kernel_rfl) (aU rfl) (aU rfl) an an rfl rfl rfl rfl ?_ ?_
    ·refine avY (iQ rfl rfl (v:=I (l.getD m 0))) ⟨.inr Keeps.nil,?_⟩
     refine ae (i:=11) rfl an rfl rfl (avY (iQ rfl rfl (v:=I (l.getD j 0))) ⟨.inr Keeps.nil,?_⟩)
     refine xq 12 (G_ rfl rfl rfl) rfl ?_
     refine ae (i:=13) rfl an rfl rfl (eS rfl rfl rfl ?_)
     refine⟨.inr Keeps.nil,?_⟩
     rw[YD (by omega)]
     refine xq 14 (G_ rfl rfl rfl) rfl ?_
     refine ae (i:=15) rfl an rfl rfl (eS rfl rfl rfl ?_)
     refine⟨.inr Keeps.nil,?_⟩
     refine az ?_
     exact⟨rfl,rfl,⟨rfl,rfl,rfl,rfl,trivial⟩,.eq (by rw[YD (by rw[List.length_set];omega)])⟩
    ·refine avY (iQ rfl rfl (v:=I (l.getD j 0))) ⟨.inr Keeps.nil,?_⟩
     refine ae (i:=7) rfl an rfl rfl (avY (iQ rfl rfl (v:=I (l.getD m 0))) ⟨.inr Keeps.nil,?_⟩)
     refine xq 12 (G_ rfl rfl rfl) rfl ?_
     refine ae (i:=13) rfl an rfl rfl (eS rfl rfl rfl ?_)
     refine⟨.inr Keeps.nil,?_⟩
     rw[YD (by omega)]
     refine xq 14 (G_ rfl rfl rfl) rfl ?_
     refine ae (i:=15) rfl an rfl rfl (eS rfl rfl rfl ?_)
     refine⟨.inr Keeps.nil,?_⟩
     refine az ?_
     exact⟨rfl,rfl,⟨rfl,rfl,rfl,rfl,trivial⟩,.eq (by rw[YD (by rw[List.length_set];omega)])⟩
   rintro e9 ρ9 ds9 F9 ⟨rfl,rfl,hE9,akw⟩
   refine dI<|aA ?_
   refine W.env hE9 (W.sb akw ?_)
   refine W.region rfl<|qm rfl rfl rfl ?_
   refine ag5 rfl ?_
   refine agb rfl rfl rfl<|pq ?_
   have hpj:l[j]? =some (l.getD j 0):=by rw[List.getD_eq_getElem?_getD,List.getElem?_eq_getElem (by omega)];rfl
   have ayv:l[m]? =some (l.getD m 0):=by rw[List.getD_eq_getElem?_getD,List.getElem?_eq_getElem (by omega)];rfl
   exact⟨rfl,((j:Int)-1,_,k1+1,s2),⟨by dsimp only;omega,by dsimp only;omega,(swap_perm hpj ayv).trans hpm,by dsimp only;omega⟩,by dsimp only;omega,⟨rfl,rfl,rfl,rfl,trivial⟩,.refl⟩
  ·refine W.exit<|bP<|bP<|gG<|aA<|W.seq<|W.region rfl<|qm rfl rfl rfl<|agb rfl rfl rfl<|Ops.nil ?_
   refine aA<|W.ret ?_
   have hk2:k1≤k+100:=by omega
   cases o with
   | none=>
    obtain⟨hi0,rfl⟩:=hrm
    obtain rfl:=List.length_eq_zero_iff.1 (hll.trans hi0)
    exact mg (vs:=[_]) ⟨[],[],k1,s1,.nil .nil,⟨hll,hpm⟩,hk2,.refl⟩
   | some y=>
    obtain⟨βr,tl⟩:=y
    obtain⟨cap5,rfl,hc5⟩:=aq2 _ rfl
    exact mg (vs:=[.slice (some ⟨βr,0,none⟩) i cap5]) ⟨l,_,k1,s1,axk hll hc5,⟨hll,hpm⟩,hk2,.refl⟩
end Go.aS

/- Pans under other numbers: all answers are as they were. Conditions: none; over the given program. -/
namespace Go.aS
set_option maxRecDepth 100000
set_option maxHeartbeats 4000000
theorem av7{g g':yV}(h:∀q o,stp g q o↔stp g' q o){T:Nat→Bool}{n q:Nat}:P7 g T n q=P7 g' T n q:=by
 rw[Bool.eq_iff_iff,JI,JI]
 constructor <;>rintro⟨v,e,h1,h2,h3⟩
 ·obtain⟨v',h4,h5⟩:=(aiR h).1 ⟨v,h1,h2⟩;exact⟨v',e,h4,h5,h3⟩
 ·obtain⟨v',h4,h5⟩:=(aiR h).2 ⟨v,h1,h2⟩;exact⟨v',e,h4,h5,h3⟩
theorem awf{ps:List Pn}{q e:Nat}(hq:q<13):enB ps (Ah (dO ps 0) q) e=(dY ps e&&(List.range 14).any fun n=>P7 (dO ps 0) (fun k=>decide (k=e)) n q):=by
 have hr:=aiq (g:=dO ps 0) afX (q:=q) F9 hq (e:=e)
 rw[Bool.eq_iff_iff,enB,List.any_eq_true,Bool.and_eq_true,List.any_eq_true]
 constructor
 ·rintro⟨w,hw,h1⟩
  simp only[Bool.and_eq_true,decide_eq_true_eq]at h1
  obtain⟨rfl,h2⟩:=h1
  obtain⟨n,h3,h5⟩:=hr.1 ⟨w,hw,rfl⟩
  exact⟨h2,n,List.mem_range.2 h3,h5⟩
 ·rintro⟨h1,n,h2,h3⟩
  obtain⟨w,hw,rfl⟩:=hr.2 ⟨n,List.mem_range.1 h2,h3⟩
  exact⟨w,hw,by simp[h1]⟩
section
variable{ps os:List Pn}{f g:Nat→Nat}
theorem Ren.ck(h:Ren ps os f g)(hps:nV ps=0):nV os=0:=by
 have h4:=(iP.yB hps).len
 rw[nV,if_neg (by omega)]at hps
 exact aaD (by rw[h.len];exact h4) fun p hp=>JO hps p (h.symm.mem hp)
theorem Ren.bg(h:Ren ps os f g)(hps:nV ps=0){q:Int}:kU os [q]=kU ps [q]:=by
 rw[akP,akP,h.ck hps,hps]
theorem Ren.ever(h:Ren ps os f g)(hps:nV ps=0):aef os=aef ps:=by
 have h4:=(iP.yB hps).len
 rw[ae4 (h.ck hps),ae4 hps]
 refine Prod.ext ?_ rfl
 show qsL _=qsL _
 refine congrArg qsL (funext fun k=>(h.way h4).symm)
theorem Ren.ends(h:Ren ps os f g)(hps:nV ps=0){q:Nat}(hq:q<13):EnF os q=EnF ps q:=by
 have h4:=(iP.yB hps).len
 rw[EnF,EnF,h.bg hps]
 have e:enB os (Ah (dO os 0) q)=enB ps (Ah (dO ps 0) q):=funext fun e=>by
  rw[awf hq,awf hq,h.trc]
  refine congrArg (fun b=>_&&b) (congrArg (fun f=>List.any _ f) (funext fun n=>?_))
  exact(av7 (h.stp h4 fun i _=>by simp)).symm
 rw[Int.toNat_natCast,e]
theorem Ren.axr(h:Ren ps os f g)(hps:nV ps=0){q:Int}:qh os q=qh ps q:=by
 have h4:=(iP.yB hps).len
 rw[qh,qh,h.bg hps,h.fin h4,←h.way h4]
theorem Ren.isSome(h:Ren ps os f g)(hps:nV ps=0){c c' q:Nat}(hc:∀i,i<ps.length→c'.testBit (f i)=c.testBit i)(hq:q<13):(shF os c' q).isSome=(shF ps c q).isSome:=by
 have h4:=(iP.yB hps).len
 rw[asW hq,asW hq]
 refine congrArg (fun f=>List.any _ f) (funext fun n=>?_)
 have e:(fun k:Nat=>dY os k)=fun k:Nat=>dY ps k:=funext fun k=>h.trc
 rw[e]
 exact(av7 (h.stp h4 hc)).symm
theorem Ren.noW(h:Ren ps os f g)(hps:nV ps=0){q i:Nat}(hq:q<13)(hi:i<ps.length):noW os q (f i)=noW ps q i:=by
 rw[Go.aS.noW,Go.aS.noW,←Option.not_isSome,←Option.not_isSome,h.isSome hps (c:=2 ^ i) (c':=2 ^ f i) (fun k hk=>?_) hq]
 rw[Nat.testBit_two_pow,Nat.testBit_two_pow]
 refine decide_eq_decide.2 ⟨fun e=>?_,fun e=>by rw[e]⟩
 rw[←h.gf i hi,e,h.gf k hk]
structure awC(a b o:List Int):Prop where
 len:a.length=b.length
 all:∀y∈a,∃(j:Nat) (z:Int),y=j∧o[j]? =some z∧z∈b
theorem Ren.moved(h:Ren ps os f g){o:List Int}(ho:∀i,i<ps.length→o[i]? =some ((f i:Nat):Int)){P P':Nat→Bool}(hP:∀i,i<ps.length→P' (f i)=P i):awC (zs ((List.range ps.length).filter P)) (zs ((List.range os.length).filter P')) o:=by
 have hp:=h.flt hP
 refine⟨by rw[kT,kT,hp.length_eq,List.length_map],fun y hy=>?_⟩
 obtain⟨i,hi,rfl⟩:=List.mem_map.1 hy
 have hil:=List.mem_range.1 (List.mem_filter.1 hi).1
 refine⟨i,_,rfl,ho i hil,?_⟩
 exact List.mem_map.2 ⟨f i,hp.mem_iff.2 (List.mem_map.2 ⟨i,hi,rfl⟩),rfl⟩
theorem Ren.takes(h:Ren ps os f g){o:List Int}(ho:∀i,i<ps.length→o[i]? =some ((f i:Nat):Int))(hps:nV ps=0){q:Nat}(hq:q<13):awC (zs (TkF ps q).1) (zs (TkF os q).1) o∧(TkF ps q).2=0∧(TkF os q).2=0:=by
 have hb:kU ps [(q:Int)]=0:=by rw[akP,hps,if_neg (by simp),if_neg (by unfold Go.aS.outs;omega)]
 have hb':=(h.bg hps (q:=(q:Int))).trans hb
 rw[TkF,TkF,if_neg (by simpa using hb),if_neg (by simpa using hb')]
 exact⟨h.moved ho fun i hi=>h.tk hi,rfl,rfl⟩
theorem Ren.forced(h:Ren ps os f g){o:List Int}(ho:∀i,i<ps.length→o[i]? =some ((f i:Nat):Int))(hps:nV ps=0){q:Nat}(hq:q<13):awC (zs (FoF ps q).1) (zs (FoF os q).1) o∧(FoF ps q).2=(FoF os q).2:=by
 have hb:kU ps [(q:Int)]=0:=by rw[akP,hps,if_neg (by simp),if_neg (by unfold Go.aS.outs;omega)]
 have hb':=(h.bg hps (q:=(q:Int))).trans hb
 have hs:=h.isSome hps (c:=0) (c':=0) (q:=q) (fun i _=>by simp) hq
 rw[FoF,FoF,if_neg (by simpa using hb),if_neg (by simpa using hb'),Int.toNat_natCast]
 cases h1:shF ps 0 q with
 | none=>
  cases h2:shF os 0 q with
  | none=>exact⟨⟨rfl,fun y hy=>by cases hy⟩,rfl⟩
  | some u=>rw[h1,h2]at hs;cases hs
 | some u=>
  cases h2:shF os 0 q with
  | none=>rw[h1,h2]at hs;cases hs
  | some u'=>exact⟨h.moved ho fun i hi=>h.noW hps hq hi,rfl⟩
end
theorem av3{n:Nat}{o:List Int}(hpm:o.Perm (zs (List.range n))):∀i,i<n→o[i]? =some (((o.getD i 0).toNat:Nat):Int)∧(o.getD i 0).toNat<n:=fun i hi=>by
 have hol:o.length=n:=by rw[hpm.length_eq,kT,List.length_range]
 have h1:o[i]? =some (o.getD i 0):=by rw[List.getD_eq_getElem?_getD,List.getElem?_eq_getElem (by omega)];rfl
 have h2:=hpm.mem_iff.1 (List.mem_of_getElem? h1)
 obtain⟨j,hj,e⟩:=List.mem_map.1 h2
 have:=List.mem_range.1 hj
 rw[h1,←e]
 exact⟨by simp,by simp;omega⟩
theorem awi{n:Nat}{o:List Int}(hpm:o.Perm (zs (List.range n))):∀i,i<n→∀j,j<n→(o.getD i 0).toNat=(o.getD j 0).toNat→i=j:=fun i hi j hj e=>by
 have hnd:o.Nodup:=hpm.nodup_iff.2 (VI List.nodup_range fun a _ b _ e=>by have e':(a:Int)=b:=e;omega)
 have h1:=(av3 hpm i hi).1
 have h2:=(av3 hpm j hj).1
 rw[←e]at h2
 have key:∀i j:Nat,∀v:Int,o[i]? =some v→o[j]? =some v→¬i<j:=fun i j v h1 h2 hlt=>by
  obtain⟨l1,e1⟩:=List.getElem?_eq_some_iff.1 h1
  obtain⟨l2,e2⟩:=List.getElem?_eq_some_iff.1 h2
  exact List.pairwise_iff_getElem.1 hnd i j l1 l2 hlt (e1.trans e2.symm)
 have:=key i j _ h1 h2
 have:=key j i _ h2 h1
 omega
theorem awY{ps xs:List Pn}{o:List Int}(hpm:o.Perm (zs (List.range ps.length)))(hl:xs.length=ps.length)(hget:∀i,i<ps.length→xs[(o.getD i 0).toNat]? =ps[i]?):∃g,Ren ps xs (fun i=>(o.getD i 0).toNat) g:=by
 have hol:o.length=ps.length:=by rw[hpm.length_eq,kT,List.length_range]
 have hat:=av3 hpm
 have hinj:=awi hpm
 have ayw:∀j,j<ps.length→∃i,i<ps.length∧(o.getD i 0).toNat=j:=fun j hj=>by
  have h2:(j:Int)∈o:=hpm.mem_iff.2 (List.mem_map.2 ⟨j,List.mem_range.2 hj,rfl⟩)
  obtain⟨i,hi⟩:=List.getElem?_of_mem h2
  have hil:i<ps.length:=by have:=(List.getElem?_eq_some_iff.1 hi).1;omega
  refine⟨i,hil,?_⟩
  rw[List.getD_eq_getElem?_getD,hi];simp
 let g:Nat→Nat:=fun j=>if h:∃i,i<ps.length∧(o.getD i 0).toNat=j then Classical.choose h else 0
 have hg:∀j,j<ps.length→g j<ps.length∧(o.getD (g j) 0).toNat=j:=fun j hj=>by
  have:=ayw j hj
  have e:g j=Classical.choose this:=dif_pos this
  rw[e];exact Classical.choose_spec this
 exact⟨g,hl,fun i hi=>(hat i hi).2,fun j hj=>(hg j hj).1,fun i hi=>hinj _ (hg _ (hat i hi).2).1 _ hi (hg _ (hat i hi).2).2,fun j hj=>(hg j hj).2,hget⟩
theorem awg(main:Side)(h:Hp)(xa xb o:List Int)(va vb vo:Value)(ha:Sl h fH va xa)(hb:Sl h fH vb xb)(ho:Sl h fH vo o)(hn:xa.length≤1000)(hon:o.length≤1000)(hm:awC xa xb o):Pu prog main av2 #[va,vb,vo] h (.bool true):=by
 obtain⟨a1,c1,rfl⟩:=ha.dA
 obtain⟨a2,c2,rfl⟩:=hb.dA
 obtain⟨a3,c3,rfl⟩:=ho.dA
 have hlen:=hm.len
 refine dV.aG av9 rfl (by show 3≤45;decide) [(0,.slice a1 xa.length c1),(1,.slice a2 xb.length c2),(2,.slice a3 o.length c3)] ⟨rfl,rfl,rfl,trivial⟩ ?_
 refine W.seq<|W.region rfl<|agb rfl rfl rfl<|pq<|W.seq<|W.seq<|W.region rfl<|qm rfl rfl rfl ?_
 refine agW (dM rfl rfl) rfl ?_
 refine qm rfl rfl rfl ?_
 refine agW (dM rfl rfl) rfl ?_
 refine agW (nG rfl rfl rfl) rfl ?_
 refine pq ?_
 refine W.bC rfl (fun c12=>?_) (fun c12=>?_)
 ·exact absurd hlen (by omega)
 ·refine W.skip<|aA<|W.seq<|W.seq<|W.region rfl<|agb rfl rfl rfl<|pq<|W.block ?_
  refine W.loop (σ:=Nat) (fun i=>i≤xa.length) (fun i=>[(7,I i),(0,.slice a1 xa.length c1),(1,.slice a2 xb.length c2),(2,.slice a3 o.length c3)]) (fun _=>[]) (fun i=>xa.length-i) 0 (Nat.zero_le _) ⟨rfl,rfl,rfl,rfl,trivial⟩ .refl ?_
  rintro i hi
  refine W.seq<|W.seq<|W.region rfl<|qm rfl rfl rfl<|qm rfl rfl rfl ?_
  refine agW (dM rfl rfl) rfl ?_
  refine agW (fO rfl rfl rfl) rfl ?_
  refine pq ?_
  refine W.bC rfl (fun c16=>?_) (fun c16=>?_)
  ·have hil:i<xa.length:=by omega
   obtain⟨y,hy,-⟩:=has hil
   obtain⟨j,z,rfl,hz,hzb⟩:=hm.all y (List.mem_of_getElem? hy)
   have hjl:=(List.getElem?_eq_some_iff.1 hz).1
   obtain⟨b1,o1,k1,E1,f1,hv1,hb1,-,-,hz1⟩:=ha.at hy
   cases hv1
   have hq1:k1[o1+i*1]? =some (I j):=hz1 0 (by decide)
   obtain⟨b3,o3,k3,E3,f3,hv3,hb3,-,-,hz3⟩:=ho.at hz
   cases hv3
   have hq3:k3[o3+j*1]? =some (I z):=hz3 0 (by decide)
   refine W.skip<|aA<|W.seq<|W.block<|W.seq<|W.region rfl<|qm rfl rfl rfl<|qm rfl rfl rfl ?_
   refine ag3 rfl ?_
   refine agX rfl ?_
   refine KU (fO rfl rfl rfl) (congrArg Value.bool (decide_eq_false (by omega))) rfl wn rfl rfl ?_
   refine qm rfl rfl rfl ?_
   refine oq (aN rfl rfl) rfl (ak rfl rfl rfl) rfl rfl ?_
   refine oq (aN rfl rfl) rfl (ak rfl rfl rfl) rfl rfl ?_
   first | refine oq (G_ rfl rfl rfl) rfl (ak rfl rfl rfl) rfl rfl ?_ | refine oq (o_ rfl rfl rfl) rfl (ak rfl rfl rfl) rfl rfl ?_
   refine oq (iQ rfl rfl) rfl (ak rfl rfl rfl) rfl rfl ?_
   refine oq (aN rfl rfl) rfl (ak rfl rfl rfl) rfl rfl ?_
   refine oq (dM rfl rfl) rfl (ak rfl rfl rfl) rfl rfl ?_
   refine KU (IJ rfl rfl rfl) (congrArg Value.bool (decide_eq_false (by omega))) rfl (ak rfl rfl rfl) rfl rfl ?_
   refine agW (iH rfl rfl rfl) rfl ?_
   refine qm rfl rfl rfl ?_
   refine oq (aN rfl rfl) rfl (ak rfl rfl rfl) rfl rfl ?_
   refine oq (aN rfl rfl) rfl (ak rfl rfl rfl) rfl rfl ?_
   refine oq (aN rfl rfl) rfl (ak rfl rfl rfl) rfl rfl ?_
   refine oq (aN rfl rfl) rfl (ak rfl rfl rfl) rfl rfl ?_
   first | refine oq (G_ rfl rfl rfl) rfl (ak rfl rfl rfl) rfl rfl ?_ | refine oq (o_ rfl rfl rfl) rfl (ak rfl rfl rfl) rfl rfl ?_
   refine oq (iQ rfl rfl) rfl (ak rfl rfl rfl) rfl rfl ?_
   first | refine oq (G_ rfl rfl rfl) rfl (ak rfl rfl rfl) rfl rfl ?_ | refine oq (o_ rfl rfl rfl) rfl (ak rfl rfl rfl) rfl rfl ?_
   refine oq (iQ rfl rfl) rfl (ak rfl rfl rfl) rfl rfl ?_
   refine oe rfl (ak rfl rfl rfl) rfl rfl (lQ (args:=[_,_]) rfl rfl (fun h' hE hL=>afl _ h' xb _ z (hb.ext hE) (by omega)) (fun v A hv=>?_))
   obtain⟨m,rfl,hm0,hA⟩:=hv
   have hm1:=hm0.2 hzb
   refine Ops.sb (F':=[]) (.nil (by simpa using hA)) ?_
   refine KU (fO rfl rfl rfl) (congrArg Value.bool (decide_eq_false (by omega))) rfl (ak rfl rfl rfl) rfl rfl ?_
   refine agW (iH rfl rfl rfl) rfl ?_
   refine pq ?_
   refine W.bZ ?_
   refine W.skip<|dI<|aA<|W.region rfl<|qm rfl rfl rfl ?_
   refine ag1 rfl ?_
   refine agb rfl rfl rfl<|pq ?_
   exact⟨rfl,i+1,hil,by omega,⟨rfl,rfl,rfl,rfl,trivial⟩,.refl⟩
  ·refine W.exit<|bP<|bP<|gG<|aA<|W.seq<|W.region rfl<|agb rfl rfl rfl<|pq ?_
   refine W.ret ?_
   exact uZ rfl
end Go.aS
