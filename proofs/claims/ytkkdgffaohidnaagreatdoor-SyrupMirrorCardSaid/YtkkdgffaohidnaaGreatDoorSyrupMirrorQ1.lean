/- What is reached in so many steps, as the laws find it. Conditions: none; no program in sight. (And 31 texts more.) -/
import Derived.Test.YtkkdgffaohidnaaGreatDoorR10
import Derived.Test.YtkkdgffaohidnaaGreatDoorR13
import Derived.Test.YtkkdgffaohidnaaGreatDoorR11
set_option linter.unusedVariables false
set_option linter.unusedSimpArgs false
set_option linter.unusedSectionVars false

/- What is reached in so many steps, as the laws find it. Conditions: none; no program in sight. -/
namespace Go.aS
set_option linter.unusedVariables false
theorem YU{ps:List Pn}{q o:Nat}{v:List Nat}(hq:q<13)(h:qJ (dO ps 0) q v o):o<13:=by
 rcases List.eq_nil_or_concat v with rfl | ⟨r,p,rfl⟩
 ·have:q=o:=h
  omega
 ·rw[List.concat_eq_append]at h
  obtain⟨m,_,h6⟩:=lW.1 h
  exact F9 _ _ _ h6
end Go.aS

/- Operations that come up in any order and only add to what is owned. Conditions: none; over any program. -/
namespace Go.aS
abbrev Spc:=Nat×Nat×(Value→ah→Prop)
def waits(ops:Array Oper):Nat→Nat→Nat→Bool
 | 0,_,_=>false
 | n+1,k,b=>match ops[k]? with | some o=>o.after.any fun e=>iG e&&(Nat.beq e.on b|| waits ops n e.on b) | none=>false
structure Y4(ops:Array Oper)(listed:Nat)(B:List Nat):Prop where
 cl:Closed ops listed
 low:∀k o,ops[k]? =some o→∀e∈o.after,iG e=true→e.on<k
 or:∀k,k<ops.size→listed.testBit k=false→k∈B∨∀b∈B,waits ops 6 k b=true
 un:∀b∈B,b<ops.size∧listed.testBit b=false
 nd:B.Nodup

theorem Y4.some{ops:Array Oper}{listed:Nat}{B:List Nat}(h:Y4 ops listed B){b:Nat}(hb:b∈B):qx ops listed≠[]:=by
 have key:∀(n k:Nat),k<n→k<ops.size→listed.testBit k=false→∃i,Fq ops listed i=true:=by
  intro n
  induction n with
  | zero=>intro k hk;omega
  | succ n ih=>
   intro k hk hlt hl
   by_cases hr:Fq ops listed k=true
   ·exact⟨k,hr⟩
   ·simp only[Fq,Array.getElem?_eq_getElem hlt,hl,Bool.not_false,Bool.true_and,Array.all_eq_true_iff_forall_mem,Bool.or_eq_true,Bool.not_eq_true']at hr
    have:∃e∈(ops[k]).after,iG e=true∧listed.testBit e.on=false:=by
     refine Classical.byContradiction fun hn=>hr fun e he=>?_
     cases hbe:iG e with
     | false=>exact .inl rfl
     | true=>
      cases ht:listed.testBit e.on with
      | true=>exact .inr rfl
      | false=>exact absurd ⟨e,he,hbe,ht⟩ hn
    obtain⟨e,he,h1,h2⟩:=this
    have:=h.low k _ (Array.getElem?_eq_getElem hlt) e he h1
    exact ih e.on (by omega) (by omega) h2
 obtain⟨i,hi⟩:=key (b+1) b (by omega) (h.un b hb).1 (h.un b hb).2
 intro e
 have:=o8.2 hi
 rw[e]at this
 cases this

theorem Y4.step{ops:Array Oper}{listed j:Nat}{B1 B2:List Nat}(h:Y4 ops listed (B1++j::B2))(hj:Fq ops listed j=true):Y4 ops (listed||| 2 ^ j) (B1++B2):=by
 have hnd:j∉B1++B2:=by
  have:=(List.perm_middle (a:=j) (l₁:=B1) (l₂:=B2)).nodup_iff.1 h.nd
  exact(List.nodup_cons.1 this).1
 refine⟨h.cl.step hj,h.low,fun k hk hl=>?_,fun b hb=>?_,?_⟩
 ·rw[testBit_or,Bool.or_eq_false_iff]at hl
  have hne:j≠k:=by simpa using hl.2
  rcases h.or k hk hl.1 with h' | h'
  ·left
   rcases List.mem_append.1 h' with h' | h'
   ·exact List.mem_append_left _ h'
   ·rcases List.mem_cons.1 h' with h' | h'
    ·exact absurd h'.symm hne
    ·exact List.mem_append_right _ h'
  ·right
   intro b hb
   refine h' b ?_
   rcases List.mem_append.1 hb with hb | hb
   ·exact List.mem_append_left _ hb
   ·exact List.mem_append_right _ (List.mem_cons_of_mem _ hb)
 ·have hb':b∈B1++j::B2:=by
   rcases List.mem_append.1 hb with hb | hb
   ·exact List.mem_append_left _ hb
   ·exact List.mem_append_right _ (List.mem_cons_of_mem _ hb)
  refine⟨(h.un b hb').1,?_⟩
  rw[testBit_or,(h.un b hb').2,Bool.false_or,decide_eq_false_iff_not]
  rintro rfl
  exact hnd hb
 ·have:=(List.perm_middle (a:=j) (l₁:=B1) (l₂:=B2)).nodup_iff.1 h.nd
  exact(List.nodup_cons.1 this).2

def Adds(x:Cx)(ops:Array Oper)(ε:Ev)(s:Spc):Prop:=
 ∃o,ops[s.1]? =some o∧o.dst=some s.2.1∧d_ o.dst x.n=true∧(∀c,o.op≠ .defer c)∧o.guard=none∧∀e,Cons ε e→∀F,Dx x o e F fun v F'=>∃A Lp,Lp.Perm F'∧s.2.2 v A∧Lp=A++F

theorem Cons.back{ε:Ev}{d:Nat}{v:Value}{e:Operand→Value}(h:Cons (upd ε (some d) v) e)(hd:ε d=none):Cons ε e:=fun y u hy=>h y u (by
 cases y with
 | tmp t=>
  simp only[UK,upd]at hy⊢
  cases hb:Nat.beq t d with
  | true=>rw[Nat.eq_of_beq_eq_true hb,hd]at hy;cases hy
  | false=>exact hy
 | _=>exact hy)

section rules
variable{x:Cx}{Q:Post}{ρ:Env}{ds:List Deferred}{F:ah}{ops:Array Oper}{L:ah}{fuel listed:Nat}
theorem Adds.of{i d:Nat}{P:Value→ah→Prop}{op:Op}{ty:TypeId}{pos:String}{bK:Array Edge}(ho:cO ops.toList i=some ⟨some d,op,ty,pos,bK,none⟩)(hd:Nat.blt d x.n=true)(hn:cu op=true)(H:∀F,Ef x ρ ⟨some d,op,ty,pos,bK,none⟩ F fun v F'=>∃A,P v A∧F'=A++F):Adds x ops (look ρ) (i,d,P):=
 ⟨_,aU ho,rfl,hd,gI hn,rfl,fun e he F=>(H F e fun y v hy=>he y v (by rw[DC];exact hy)).mono fun v F' ⟨Lp,p,A,hv,e⟩=>⟨A,Lp,p,hv,e⟩⟩
theorem Adds.call{i d f:Nat}{P:Value→ah→Prop}{args:List Operand}{ts:Array TypeId}{vs:List Value}{ty:TypeId}{pos:String}{bK:Array Edge}(H:∀h',Ext x.h h'→dV x.P x.main f vs.toArray h' [] P)(ho:cO ops.toList i=some ⟨some d,.call ⟨.value (.func f),args.toArray,ts⟩,ty,pos,bK,none⟩:=by rfl)[FB x.P f](hv:evs ρ args=some vs:=by rfl)(hd:Nat.blt d x.n=true:=by rfl):Adds x ops (look ρ) (i,d,P):=
 .of ho hd rfl fun F=>lQ rfl hv (fun h' hE _=>H h' hE) fun v A' hv=>⟨A',hv,rfl⟩
end rules
end Go.aS
namespace Go.aS
section
variable{α:Type}{row:α→List Value}{w:Nat}[rw':Rw row w]
section
variable{x:Cx}{ρ:Env}{F:ah}{o:Oper}{R:Value→ah→Prop}
end
end
section
variable{x:Cx}{S:ah→Prop}{ρ:Env}{o:Oper}
end
end Go.aS
namespace Go.aS
section
variable{x:Cx}{Q:Post}{ρ:Env}{ds:List Deferred}{ops:Array Oper}{G:ah}{y₁ y₂ y₃ y₄ agp agq:Nat×Obj}{id n:Nat}
end
end Go.aS
namespace Go.aS
end Go.aS

/- Slices of slices; makeSlice. Conditions: none; over any program. -/
namespace Go.aS
structure Sv where
  a:Option Addr
  n:Nat
  cap:Nat
abbrev Sv.val(s:Sv):Value:=.slice s.a s.n s.cap
section
variable{α:Type}{row:α→List Value}{w:Nat}[rw':Rw row w]{E:TypeId}
inductive UG(E:TypeId)(row:α→List Value)[Rw row w]:List Sv→List (List α)→ah→Prop
  | nil:UG E row [] [] []
  | cons {s:Sv} {l:List α} {A B:ah} {vs:List Sv} {ls:List (List α)}:Os E row s.val l A→UG E row vs ls B→UG E row (s::vs) (l::ls) (A++B)
theorem UG.len{vs:List Sv}{ls:List (List α)}{A:ah}(h:UG E row vs ls A):vs.length=ls.length:=by
  induction h with
  | nil=>rfl
  | cons _ _ ih=>simp[ih]
theorem UG.shut{vs:List Sv}{ls:List (List α)}{A:ah}(h:UG E row vs ls A):Shut A:=by
  induction h with
  | nil=>exact .nil
  | cons h _ ih=>exact h.shut.app ih
theorem UG.sl{vs:List Sv}{ls:List (List α)}{A:ah}{h':Hp}(h:UG E row vs ls A)(hL:∀b o,(b,o)∈A→h' b=some o):∀{k:Nat} {s:Sv} {l:List α},vs[k]? =some s→ls[k]? =some l→Sl h' row s.val l:=by
  induction h with
  | nil=>intro k s l hs;simp at hs
  | cons h1 _ ih=>
    intro k s l hs hl
    rcases k with _ | k
    · simp at hs hl;subst hs hl
      exact h1.sl fun b o hb=>hL b o (List.mem_append_left _ hb)
    · simp at hs hl
      exact ih (fun b o hb=>hL b o (List.mem_append_right _ hb)) hs hl
end
/-! makeSlice -/
section
variable{x:Cx}{ρ:Env}{F:ah}{o:Oper}{R:Value→ah→Prop}
end
end Go.aS

/- Sets of qualities, as the laws keep them. Conditions: none; over the given program. -/
namespace Go.aS
set_option maxRecDepth 100000
set_option maxHeartbeats 4000000
abbrev V9(β:Nat):Value:=.slice (some ⟨β,0,none⟩) 13 13
abbrev bsO(f:Nat→Bool):Obj:=.cells (bA f) RS (0,0)
end Go.aS

/- SyrupLongest. Conditions: none; over the given program. -/
namespace Go.aS
set_option maxRecDepth 100000
set_option maxHeartbeats 4000000
theorem UH{ps:List Pn}{q:Int}(h:nV ps=0)(h0:0≤q)(h1:q≤12):kU ps [q]=0:=by
 have:¬outs q 0 12:=by unfold outs;omega
 simp[kU,h,this]
end Go.aS

/- What goes round for ever comes to a ring. Conditions: none; no program in sight. -/
namespace Go.aS
set_option linter.unusedVariables false
theorem acs{g:yV}(hn:∀k p o,(p,o)∈g k→o<13):∀{v:List Nat} {q e:Nat},q<13→qJ g q v e→e<13
 | [],q,e,hq,h=>by have:q=e:=h;omega
 | p::r,q,e,hq,⟨o,h1,h2⟩=>acs hn (hn _ _ _ h1) h2
end Go.aS

/- All ways of so many steps; the first of them. Conditions: none; no program in sight. -/
namespace Go.aS
set_option linter.unusedVariables false
end Go.aS

/- All lists of so many numbers, as a program makes them; all ascending ones. Conditions: none; no program in sight. -/
namespace Go.aS
set_option linter.unusedVariables false
end Go.aS

/- All lists of so many numbers. Conditions: none; over the given program. -/
namespace Go.aS
set_option maxRecDepth 100000
set_option maxHeartbeats 4000000
end Go.aS

/- Ways, as the laws make them. Conditions: none; over the given program. -/
namespace Go.aS
set_option maxRecDepth 100000
set_option maxHeartbeats 4000000
end Go.aS

/- Comparing truth values. Conditions: none; over any program. -/
namespace Go.aS
section
variable{x:Cx}{ρ:Env}{S:ah→Prop}{o:Oper}{v:Value}
end
end Go.aS

/- Shut blocks are put by. Conditions: none; over any program. -/
namespace Go.aS
theorem W.cut{x:Cx}{c c2:Code}{Q:Post}{ρ:Env}{ds:List Deferred}{F:ah}(L:Env)(G:ah)(H:W x c (fun e ρ' ds' F'=>e= .normal∧ds'=ds∧Sub L ρ'∧Sb G F') ρ ds F)(K:W x c2 Q L ds G):W x c (thn (fun ρ' ds' F'=>W x c2 Q ρ' ds' F') Q) ρ ds F:=
 W.mono H fun e ρ' ds' F' h=>by
  obtain⟨he,hd,hs,hb⟩:=h
  subst he hd
  exact aA (W.env hs (W.sb hb K))
theorem W.aiB{σ:Type}{x:Cx}{c c2:Code}{Q:Post}{ρ:Env}{ds:List Deferred}{F:ah}(ok:σ→Prop)(L:σ→Env)(G:σ→ah)(H:W x c (fun e ρ' ds' F'=>e= .normal∧ds'=ds∧∃s,ok s∧Sub (L s) ρ'∧Sb (G s) F') ρ ds F)(K:∀s,ok s→W x c2 Q (L s) ds (G s)):W x c (thn (fun ρ' ds' F'=>W x c2 Q ρ' ds' F') Q) ρ ds F:=
 W.mono H fun e ρ' ds' F' h=>by
  obtain⟨he,hd,s,ho,hs,hb⟩:=h
  subst he hd
  exact aA (W.env hs (W.sb hb (K s ho)))
end Go.aS

/- SyrupRing. Conditions: none; over the given program. -/
namespace Go.aS
set_option maxRecDepth 100000
set_option maxHeartbeats 4000000
end Go.aS

/- From where syrups go round for ever: the list. Conditions: none; over the given program. -/
namespace Go.aS
set_option maxRecDepth 100000
set_option maxHeartbeats 4000000
def qsL(f:Nat→Bool):List Nat:=(List.range 13).filter f
theorem afm{f:Nat→Bool}{q:Nat}:q∈qsL f↔q<13∧f q=true:=by simp[qsL]
theorem afn{f:Nat→Bool}:(qsL f).length≤13:=Nat.le_trans (List.length_filter_le ..) (by simp)
theorem ae1(main:Side)(h:Hp)(f:Nat→Bool):dV prog main aaV #[.agg (bA f)] h [] (fun v A=>∃S,Os dL fH v (zs (qsL f)) S∧Sb S A):=by
 refine dV.aG aa2 rfl (by show 1≤18;decide) [(0,.agg (bA f))] ⟨rfl,trivial⟩ ?_
 have hsz:(bA f).size=13:=nX
 have hon:ones (bA f).toList=true:=Un
 refine W.seq<|W.region rfl ?_
 refine Ops.box (cs:=bA f) (fun β1=>?_)
 refine agb rfl rfl rfl<|pq<|W.seq<|W.region rfl<|agb rfl rfl rfl<|pq<|W.seq<|W.seq ?_
 refine W.region rfl ?_
 refine ag2 rfl ?_
 refine qm rfl rfl rfl<|pq<|W.block ?_
 refine W.Js (fun(k:Nat) (v:Value) (S:ah)=>k≤13∧Os dL fH v (zs ((List.range k).filter f)) S) (fun k v S=>[(7,I k),(6,.agg (bA f)),(3,v),(1,.pointer (some ⟨β1,0,none⟩))]) (fun k v S=>S++[(β1,.cells (bA f) aP (0,0))]) (fun k _ _=>13-k) 0 (.slice none 0 0) [] ⟨Nat.zero_le _,.nil .nil⟩ ⟨rfl,rfl,rfl,rfl,trivial⟩ .refl ?_
 rintro k v S ⟨hk,hS⟩
 refine W.seq<|W.region rfl ?_
 refine agW (fO rfl rfl rfl) rfl ?_
 refine pq<|W.seq ?_
 refine W.bC rfl (fun c8=>?_) (fun c8=>?_)
 ·have Vq:k<13:=by omega
  have hlen:(zs ((List.range k).filter f)).length≤13:=by rw[kT];exact Nat.le_trans (List.length_filter_le ..) (by simp;omega)
  refine W.skip<|aA<|W.seq<|W.block<|W.seq<|W.region rfl<|qm rfl rfl rfl ?_
  refine agW (Ti (n:=k) (v:=.bool (f k)) rfl rfl rfl (by omega) (by omega) (by rw[Int.toNat_natCast,Nat.mul_one];exact L9 Vq)) rfl ?_
  refine agb rfl rfl rfl<|agb rfl rfl rfl<|pq<|W.seq<|W.region rfl<|qm rfl rfl rfl<|pq ?_
  refine W.cond rfl (fun c11=>?_) (fun c11=>?_)
  ·refine W.region rfl<|qm rfl rfl rfl<|qm rfl rfl rfl ?_
   refine Ops.NK (cs:= #[I k]) (fun aht=>?_) rfl
   refine oe rfl wn rfl rfl (iW (row:=fH) (l':=[(k:Int)]) rfl rfl rfl hS (.tail .head) (fun h2 _ hl=>Sl.mk (hl aht _ (.head _)) rfl (Part.all [I k])) (by simp;omega) (by decide) rfl (fun v' S' hS'=>?_))
   refine agb rfl rfl rfl<|Ops.nil<|dI<|aA<|W.region rfl ?_
   refine ag1 rfl ?_
   refine qm rfl rfl rfl<|pq ?_
   exact⟨rfl,k+1,v',S',⟨by omega,by rw[List.range_succ,List.filter_append,X3];simpa[zs,c11]using hS'⟩,by omega,⟨rfl,rfl,rfl,rfl,trivial⟩,.skip rfl .refl⟩
  ·refine W.skip<|dI<|aA<|W.region rfl ?_
   refine ag1 rfl ?_
   refine qm rfl rfl rfl<|pq ?_
   exact⟨rfl,k+1,v,S,⟨by omega,by rw[List.range_succ,List.filter_append,X3];simpa[zs,c11]using hS⟩,by omega,⟨rfl,rfl,rfl,rfl,trivial⟩,.refl⟩
 ·refine W.exit<|bP<|bP<|gG<|aA<|W.seq<|W.region rfl<|qm rfl rfl rfl<|agb rfl rfl rfl<|Ops.nil ?_
  refine aA<|W.ret ?_
  obtain rfl:k=13:=by omega
  exact mg (vs:=[v]) ⟨S,hS,.right .refl (.cons rfl .nil)⟩
def aef(ps:List Pn):List Nat×Int:=if nV ps≠0 then([],nV ps)else(qsL fun k=>dD (dO ps 0) 13 k,0)
theorem afo(main:Side)(h:Hp)(ps:List Pn)(vp:Value)(hf:Sl h Pn.row vp ps):dV prog main abZ #[vp] h [] (fun v A=>∃w S,v= .tuple #[w,I (aef ps).2]∧Os dL fH w (zs (aef ps).1) S∧Sb S A):=by
 obtain⟨a,cap,rfl⟩:=hf.dA
 refine dV.aG adO rfl (by show 1≤17;decide) [(0,.slice a ps.length cap)] ⟨rfl,trivial⟩ ?_
 have hbe:kU ps []=nV ps:=by unfold kU;split <;>simp_all
 refine W.seq<|W.region rfl<|agb rfl rfl rfl<|agb rfl rfl rfl<|pq<|W.seq<|W.region rfl<|qm rfl rfl rfl ?_
 refine cp (fun h' hE hL=>Am _ h' ps (.slice a ps.length cap) [] _ (hf.ext hE) .nil (by simp)) ?_
 refine qm rfl rfl rfl<|oq (bD rfl rfl rfl) rfl wn rfl rfl<|oq (bD rfl rfl rfl) rfl wn rfl rfl ?_
 have hcs:∃cs:Array Value,(if kU ps []=0 then xJ (.slice a ps.length cap) 0 else LZ)= .agg cs∧cs.size=2∧ones cs.toList=true:=by
  split
  ·exact⟨_,rfl,rfl,rfl⟩
  ·exact⟨_,rfl,rfl,rfl⟩
 obtain⟨cs,hcs,hcs2,hcs1⟩:=hcs
 rw[hcs,hbe]
 refine Ops.new (fun wC=>?_)
 refine Ops.jP (n:=2) (vs:=cs) ?_ (hy:=by rfl) (hn:=hcs2) (h1:=hcs1)
 refine agb rfl rfl rfl<|pq<|W.seq<|W.seq<|W.region rfl<|qm rfl rfl rfl ?_
 refine agW (nG rfl rfl rfl) rfl ?_
 refine pq ?_
 refine W.bC rfl (fun c12=>?_) (fun c12=>?_)
 ·refine W.seq<|W.region rfl<|qm rfl rfl rfl<|agb rfl rfl rfl<|agb rfl rfl rfl<|pq<|W.ret<|aY ?_
  refine mg (vs:=[_,_]) ?_
  rw[aef,if_pos (by simpa using c12)]
  exact⟨_,[],rfl,.nil .nil,.nil (by repeat(first | exact Shut.nil | refine Shut.cons rfl ?_))⟩
 ·have h0:nV ps=0:=by simpa using c12
  rw[if_pos (by rw[hbe];exact h0)]at hcs
  cases hcs
  refine W.skip<|aA<|W.seq<|W.region rfl ?_
  refine ag2 rfl ?_
  refine cp (fun h' hE hL=>Uo _ h' ps _ 0 (hf.ext hE) (iP.yB h0) (by decide)) ?_
  refine c0 (fun h' hE hL=>ae1 _ h' _) (fun v A' hv=>?_)
  obtain⟨S,hS,hsb⟩:=hv
  refine agb rfl rfl rfl<|agb rfl rfl rfl<|pq<|W.ret ?_
  refine mg (vs:=[_,_]) ?_
  rw[aef,if_neg (by simpa using h0)]
  exact⟨_,S,rfl,hS,.right hsb (.cons rfl .nil)⟩
theorem ae4{ps:List Pn}(h:nV ps=0):aef ps=(qsL fun k=>dD (dO ps 0) 13 k,0):=by rw[aef,if_neg (by simpa using h)]
end Go.aS

/- The shortest way to treacle; what treacle comes of a syrup. Conditions: none; over the given program. -/
namespace Go.aS
set_option maxRecDepth 100000
set_option maxHeartbeats 4000000
def enB(ps:List Pn)(l:List Wy)(e:Nat):Bool:=l.any fun w=>decide (w.2=e)&&dY ps w.2
def EnF(ps:List Pn)(q:Int):List Nat×Int:=if kU ps [q]≠0 then([],kU ps [q])else(qsL (enB ps (Ah (dO ps 0) q.toNat)),0)
theorem aio{ps:List Pn}{l:List Wy}{k:Nat}{w:Wy}(h:l[k]? =some w):(fun i=>if i=w.2 then dY ps w.2 else enB ps (l.take k) i)=enB ps (l.take (k+1)):=by
 funext i
 rw[List.take_add_one,h]
 simp only[enB,Option.toList_some,List.any_append,List.any_cons,List.any_nil,Bool.or_false]
 by_cases hi:i=w.2
 ·subst hi
  rw[if_pos rfl]
  simp only[decide_true,Bool.true_and]
  cases ht:dY ps (w.2:Int)with
  | true=>rw[Bool.or_true]
  | false=>
   rw[Bool.or_false,eq_comm]
   refine List.any_eq_false.2 fun u hu=>?_
   simp only[Bool.and_eq_true,decide_eq_true_eq,not_and]
   intro hu2;rw[hu2,ht];decide
 ·rw[if_neg hi,decide_eq_false (fun h=>hi h.symm),Bool.false_and,Bool.or_false]
theorem aiH(main:Side)(h:Hp)(ps:List Pn)(vp:Value)(q:Int)(hf:Sl h Pn.row vp ps):dV prog main ahw #[vp,I q] h [] (fun v A=>∃w S,v= .tuple #[w,I (EnF ps q).2]∧Os dL fH w (zs (EnF ps q).1) S∧Sb S A):=by
 obtain⟨a,cap,rfl⟩:=hf.dA
 refine dV.aG ahW rfl (by show 2≤33;decide) [(0,.slice a ps.length cap),(1,I q)] ⟨rfl,rfl,trivial⟩ ?_
 refine W.seq<|W.region rfl<|agb rfl rfl rfl<|agb rfl rfl rfl<|pq<|W.seq<|W.region rfl<|qm rfl rfl rfl<|qm rfl rfl rfl ?_
 refine Ops.NK (cs:= #[I q]) (fun X5=>?_) rfl
 refine cp (fun h' hE hL=>Am _ h' ps _ [q] _ (hf.ext hE) (Sl.mk (hL X5 _ (.head _)) rfl (Part.all [I q])) (by simp)) ?_
 refine qm rfl rfl rfl<|oq (bD rfl rfl rfl) rfl wn rfl rfl<|oq (bD rfl rfl rfl) rfl wn rfl rfl ?_
 have hcs:∃cs:Array Value,(if kU ps [q]=0 then xJ (.slice a ps.length cap) 0 else LZ)= .agg cs∧cs.size=2∧ones cs.toList=true:=by
  split <;>exact⟨_,rfl,rfl,rfl⟩
 obtain⟨cs,hcs,hcs2,hcs1⟩:=hcs
 rw[hcs]
 refine Ops.new (fun yC=>?_)
 refine Ops.jP (n:=2) (vs:=cs) ?_ (hy:=by rfl) (hn:=hcs2) (h1:=hcs1)
 refine agb rfl rfl rfl<|pq<|W.seq<|W.seq<|W.region rfl<|qm rfl rfl rfl ?_
 refine agW (nG rfl rfl rfl) rfl ?_
 refine pq ?_
 refine W.bC rfl (fun c18=>?_) (fun c18=>?_)
 ·have e:EnF ps q=([],kU ps [q]):=by rw[EnF,if_pos (by simpa using c18)]
  refine W.seq<|W.region rfl<|qm rfl rfl rfl<|agb rfl rfl rfl<|agb rfl rfl rfl<|pq<|W.ret<|aY ?_
  refine mg (vs:=[_,_]) ?_
  rw[e]
  exact⟨_,[],rfl,.nil .nil,.nil (by repeat(first | exact Shut.nil | refine Shut.cons rfl ?_))⟩
 ·have h0:kU ps [q]=0:=by simpa using c18
  obtain⟨hok,hq0,hq12⟩:=Sj h0
  rw[if_pos h0]at hcs
  cases hcs
  obtain⟨q,rfl⟩:∃n:Nat,q=n:=⟨q.toNat,by omega⟩
  have e:EnF ps q=(qsL (enB ps (Ah (dO ps 0) q)),0):=by rw[EnF,if_neg (by simpa using h0),Int.toNat_natCast]
  refine W.skip<|aA<|W.seq<|W.region rfl ?_
  refine Ops.new (fun yD=>?_)
  refine pq<|W.seq<|W.seq<|W.region rfl ?_
  refine ag2 rfl ?_
  refine qm rfl rfl rfl ?_
  refine c0 (fun h' hE hL=>Yt _ h' _ 0 q rfl) (fun v A' hv=>?_)
  obtain⟨b1,b2,rfl,rfl⟩:=hv
  refine pq<|W.block ?_
  refine W.abW (Val:=adG) (xs:=Ah (dO ps 0) q) rfl rfl rfl
   (fun k A=>A=[(yD,.cells (bA (enB ps ((Ah (dO ps 0) q).take k))) aP (0,0)),(yC,.cells #[.slice a ps.length cap,U8 0] bG (0,0)),(X5,.cells #[I q] dL (0,0))])
   (fun k v e A=>False)
   (.tail (.tail .all)) (eqc (by rfl)) (fun h' hE hL=>Qm _ h' ps _ 0 q b1 b2 _ _ _ _ (hf.ext hE) hok (by decide) (by omega) (hL b1 _ (.head _)) (hL b2 _ (.tail _ (.head _)))) ?_ ?_
  ·rintro k p v S A1 hp ⟨vw,rfl,hv1,hvR⟩ rfl l h1 hE1 hL1 hS1
   obtain⟨av,cv,rfl⟩:=(hvR.2 _ hS1).dA
   have hlen:(zs p.1).length=p.1.length:=kT _
   have akj:p.2<13:=by
    obtain⟨met,H⟩:=aee afX (q:=q) (g:=dO ps 0) F9
    exact YU (by omega) (H.path p (by simpa using List.mem_of_getElem? hp))
   have hsz:0+p.2*1<(bA (enB ps ((Ah (dO ps 0) q).take k))).size:=by rw[nX];omega
   refine W.region rfl ?_
   refine Ops.new (fun Uw=>?_)
   refine Ops.jP (vs:= #[.slice av (zs p.1).length cv,I p.2]) ?_
   refine Ops.nil ?_
   refine⟨rfl,rfl,fun h0 hE0 hL0=>?_⟩
   intro hS0
   refine W.block ?_
   refine W.rE (n:=8) rfl ?_
   refine xq 0 (ay rfl rfl) rfl ?_
   refine xq 1 (iQ rfl rfl) rfl ?_
   first | refine xq 2 (Bf rfl rfl) rfl ?_ | refine xq 2 (zi rfl rfl) rfl ?_
   refine xq 3 (ay rfl rfl) rfl ?_
   refine xq 4 (iQ rfl rfl) rfl ?_
   refine Va (i:=5) (fun h' hE hL=>Si _ h' ps _ 0 p.2 (hf.ext (hE0.trans hE)) hok.len) ?_
   first | refine xq 6 (UN rfl rfl rfl) rfl ?_ | refine xq 6 (Qg rfl rfl rfl) rfl ?_
   refine ae (i:=7) rfl an rfl rfl (eS rfl rfl rfl ?_)
   refine⟨.inl (by kernel_rfl),?_⟩
   refine az ?_
   refine dI ?_
   refine⟨rfl,.inl ⟨rfl,_,rfl,.skip rfl (.eq ?_)⟩⟩
   refine eqc ?_
   rw[show 0+p.2*1=p.2 by omega,Og akj,aio hp]
  ·rintro e2 A2 h9 d
   have h9':e2= .normal∧A2=[(yD,.cells (bA (enB ps ((Ah (dO ps 0) q)))) aP (0,0)),(yC,.cells #[.slice a ps.length cap,U8 0] bG (0,0)),(X5,.cells #[I q] dL (0,0))]:=by
    rcases h9 with⟨h1,h2⟩ | ⟨k,p,v,S,B,hp,hv,hF,-⟩
    ·rw[List.take_length]at h2;exact⟨h1,h2⟩
    ·exact hF.elim
   obtain⟨rfl,rfl⟩:=h9'
   have hs1:(bA (enB ps (Ah (dO ps 0) q))).size=13:=nX
   refine dI<|aA<|W.seq<|W.region rfl ?_
   refine ag2 rfl ?_
   refine c0 (fun h' hE hL=>ae1 _ h' _) (fun v A' hv=>?_)
   obtain⟨S,hS,hsb⟩:=hv
   refine agb rfl rfl rfl<|agb rfl rfl rfl<|pq<|W.ret ?_
   refine lvm (mg (vs:=[_,_]) ?_)
   rw[e]
   exact⟨_,S,rfl,hS,.right hsb (by repeat(first | exact Shut.nil | refine Shut.cons rfl ?_))⟩
end Go.aS

/- Treacle, as the document has it. Conditions: none; over the given program. -/
namespace Go.aS
set_option maxRecDepth 100000
set_option maxHeartbeats 4000000
theorem aii(main:Side)(h:Hp)(n lo hi:Int):Pu prog main ahB #[I n,I lo,I hi] h (.bool (decide (lo≤n)&&decide (n≤hi))):=by
 refine dV.aG ah1 rfl (by show 3≤15;decide) [(0,I n),(1,I lo),(2,I hi)] ⟨rfl,rfl,rfl,trivial⟩ ?_
 refine W.seq<|W.region rfl<|agb rfl rfl rfl<|pq<|W.seq<|W.region rfl<|qm rfl rfl rfl<|qm rfl rfl rfl ?_
 refine agW (IJ rfl rfl rfl) rfl ?_
 refine qm rfl rfl rfl ?_
 refine Ops.ask (fun ae5=>?_) (fun ae5=>?_)
 ·refine oq (aN rfl rfl) rfl (ak rfl rfl rfl) rfl rfl ?_
  refine oq (aN rfl rfl) rfl (ak rfl rfl rfl) rfl rfl ?_
  refine oq (Lr rfl rfl rfl) rfl (ak rfl rfl rfl) rfl rfl ?_
  refine agW (dG rfl rfl rfl) rfl ?_
  refine agb rfl rfl rfl<|pq<|W.ret ?_
  refine uZ ?_
  exact congrArg Value.bool (by simp[*])
 ·refine Ops.no ?_
  refine Ops.no ?_
  refine Ops.no ?_
  refine agW (iH rfl rfl rfl) rfl ?_
  refine agb rfl rfl rfl<|pq<|W.ret ?_
  refine uZ ?_
  exact congrArg Value.bool (by simp[*])
theorem aik(main:Side)(h:Hp)(p:Pn)(q:Int):Pu prog main ahz #[p.val,I q] h (.bool (p.takes q)):=by
 refine dV.aG ah0 rfl (by show 2≤11;decide) [(0,p.val),(1,I q)] ⟨rfl,rfl,trivial⟩ ?_
 refine W.seq<|W.region rfl ?_
 refine Ops.box (cs:= #[I p.lo,I p.hi,I p.sh]) (fun yR=>?_)
 refine agb rfl rfl rfl<|pq<|W.seq<|W.region rfl<|qm rfl rfl rfl ?_
 refine agY rfl ?_
 refine agX rfl ?_
 refine agY rfl ?_
 refine agX rfl ?_
 refine cp (fun h' hE hL=>aii _ h' q p.lo p.hi) ?_
 refine agb rfl rfl rfl<|pq<|W.ret ?_
 exact uZ rfl
end Go.aS

/- SyrupShortest. Conditions: none; over the given program. -/
namespace Go.aS
set_option maxRecDepth 100000
set_option maxHeartbeats 4000000
end Go.aS

/- Pans that are forced. Conditions: none; over the given program. -/
namespace Go.aS
set_option maxRecDepth 100000
set_option maxHeartbeats 4000000
end Go.aS

/- Pans that are shut; where one comes without them. Conditions: none; no program in sight. -/
namespace Go.aS
set_option linter.unusedVariables false
end Go.aS

/- Pans shut, as the document has it. Conditions: none; over the given program. -/
namespace Go.aS
set_option maxRecDepth 100000
set_option maxHeartbeats 4000000
end Go.aS

/- SyrupForced. Conditions: none; over the given program. -/
namespace Go.aS
set_option maxRecDepth 100000
set_option maxHeartbeats 4000000
end Go.aS

/- All ascending lists of so many numbers, as a program makes them. Conditions: none; no program in sight. -/
namespace Go.aS
set_option linter.unusedVariables false
set_option maxRecDepth 100000
end Go.aS

/- All ascending lists of so many numbers. Conditions: none; over the given program. -/
namespace Go.aS
set_option maxRecDepth 100000
set_option maxHeartbeats 4000000
theorem UG.os{α:Type}{row:α→List Value}{w:Nat}[Rw row w]{E:TypeId}{vs:List Sv}{ls:List (List α)}{A:ah}(h:UG E row vs ls A):∀{k:Nat} {s:Sv} {l:List α},vs[k]? =some s→ls[k]? =some l→∃B,Os E row s.val l B∧∀p∈B,p∈A:=by
 induction h with
 | nil=>intro k s l hs;simp at hs
 | cons h1 _ ih=>
  intro k s l hs hl
  rcases k with _ | k
  ·simp at hs hl;subst hs hl
   exact⟨_,h1,fun p hp=>List.mem_append_left _ hp⟩
  ·simp at hs hl
   obtain⟨B,h2,h3⟩:=ih hs hl
   exact⟨B,h2,fun p hp=>List.mem_append_right _ (h3 p hp)⟩
end Go.aS

/- SyrupClosed. Conditions: none; over the given program. -/
namespace Go.aS
set_option maxRecDepth 100000
set_option maxHeartbeats 4000000
end Go.aS

/- SyrupMore. Conditions: none; over the given program. -/
namespace Go.aS
set_option maxRecDepth 100000
set_option maxHeartbeats 4000000
end Go.aS

/- Pans that are checked, and which of them take a syrup, as the document has it and as the program has it. Conditions: none; over the given program. -/
namespace Go.aS
set_option maxRecDepth 100000
set_option maxHeartbeats 4000000
theorem akO(n lo hi:Int):(!(decide (lo≤n)&&decide (n≤hi)))=decide (outs n lo hi):=by
 rw[←Bool.decide_and,←decide_not]
 exact decide_eq_decide.2 (by unfold outs;omega)
theorem ak9(main:Side)(h:Hp)(ps:List Pn)(vp:Value)(hf:Sl h Pn.row vp ps):Pu prog main akx #[vp] h (I (nV ps)):=by
 obtain⟨a,cap,rfl⟩:=hf.dA
 refine dV.aG akM rfl (by show 1≤37;decide) [(0,.slice a ps.length cap)] ⟨rfl,trivial⟩ ?_
 refine W.seq<|W.region rfl<|agb rfl rfl rfl<|pq<|W.seq<|W.seq<|W.region rfl<|qm rfl rfl rfl ?_
 refine agW (dM rfl rfl) rfl ?_
 refine agW (rC rfl rfl rfl) rfl ?_
 refine pq ?_
 refine W.bC rfl (fun c7=>?_) (fun c7=>?_)
 ·refine W.seq<|W.region rfl<|agb rfl rfl rfl<|pq<|W.ret<|aY ?_
  refine uZ ?_
  show I _=I _;congr 1;rw[nV,if_pos (by omega)]
 ·have h4:ps.length≤4:=by omega
  have hcp:nV ps=lX ps:=by rw[nV,if_neg (by omega)]
  refine W.skip<|aA<|W.seq<|W.seq<|W.region rfl<|agb rfl rfl rfl<|pq<|W.block ?_
  refine W.loop (σ:=Nat) (fun i=>i≤ps.length∧lX ps=lX (ps.drop i)) (fun i=>[(3,I i),(0,.slice a ps.length cap)]) (fun _=>[]) (fun i=>ps.length-i) 0 ⟨Nat.zero_le _,rfl⟩ ⟨rfl,rfl,trivial⟩ .refl ?_
  rintro i ⟨hi,ht⟩
  refine W.seq<|W.seq<|W.region rfl<|qm rfl rfl rfl<|qm rfl rfl rfl ?_
  refine agW (dM rfl rfl) rfl ?_
  refine agW (fO rfl rfl rfl) rfl ?_
  refine pq ?_
  refine W.bC rfl (fun c11=>?_) (fun c11=>?_)
  ·have hil:i<ps.length:=by omega
   obtain⟨p,hp,hdr⟩:=has hil
   rw[hdr,lX]at ht
   obtain⟨b,off,c,E,fz,hv,hb,hx,hy,hz⟩:=hf.at hp
   cases hv
   have hx':c.extract (off+i*3) (off+i*3+3)= #[I p.lo,I p.hi,I p.sh]:=hx
   clear hx
   refine W.skip<|aA<|W.seq<|W.block<|W.seq<|W.region rfl<|qm rfl rfl rfl<|qm rfl rfl rfl ?_
   refine ag3 rfl ?_
   refine ag2 rfl ?_
   refine Ops.new (fun wC=>?_)
   refine Ops.jP (vs:= #[I p.lo,I p.hi,I p.sh]) ?_
   refine pq<|W.seq<|W.seq<|W.region rfl ?_
   refine agY rfl ?_
   refine agX rfl ?_
   refine cp (fun h' hE hL=>aii _ h' p.lo 0 12) ?_
   refine KU (xU rfl rfl) (congrArg Value.bool (akO p.lo 0 12)) rfl wn rfl rfl ?_
   refine qm rfl rfl rfl ?_
   refine Ops.ask (fun alJ=>?_) (fun alJ=>?_)
   ·refine Ops.no ?_
    refine Ops.no ?_
    refine Ops.no ?_
    refine Ops.no ?_
    refine agW (dG rfl rfl rfl) rfl ?_
    refine pq ?_
    refine W.dW ?_
    refine W.seq<|W.region rfl<|agb rfl rfl rfl<|pq<|W.ret<|aY<|cZ<|aY<|aY ?_
    refine cZ<|aY ?_
    have hk:gW p=1:=by rw[gW,if_pos (by first | exact .inl (by assumption) | exact .inr (by assumption))]
    refine uZ ?_
    show I _=I _;congr 1;rw[hcp,ht,hk];rfl
   ·refine oq (ay rfl rfl) rfl (ak rfl rfl rfl) rfl rfl ?_
    refine oq (iQ rfl rfl) rfl (ak rfl rfl rfl) rfl rfl ?_
    refine cp (g:=some _) (fun h' hE hL=>aii _ h' p.hi 0 12) ?_
    refine KU (xU rfl rfl) (congrArg Value.bool (akO p.hi 0 12)) rfl (ak rfl rfl rfl) rfl rfl ?_
    refine agW (iH rfl rfl rfl) rfl ?_
    refine pq ?_
    refine W.bC rfl (fun c27=>?_) (fun c27=>?_)
    ·refine W.seq<|W.region rfl<|agb rfl rfl rfl<|pq<|W.ret<|aY<|cZ<|aY<|aY ?_
     refine cZ<|aY ?_
     have hk:gW p=1:=by rw[gW,if_pos (by first | exact .inl (by assumption) | exact .inr (by assumption))]
     refine uZ ?_
     show I _=I _;congr 1;rw[hcp,ht,hk];rfl
    ·refine W.skip<|aA<|W.seq<|W.seq<|W.region rfl ?_
     refine agY rfl ?_
     refine agX rfl ?_
     refine agY rfl ?_
     refine agX rfl ?_
     refine agW (rC rfl rfl rfl) rfl ?_
     refine pq ?_
     refine W.bC rfl (fun c32=>?_) (fun c32=>?_)
     ·refine W.seq<|W.region rfl<|agb rfl rfl rfl<|pq<|W.ret<|aY<|cZ<|aY<|aY ?_
      refine cZ<|aY ?_
      have hk:gW p=5:=by rw[gW,if_neg (by intro h;rcases h with h | h <;>contradiction),if_pos (by omega)]
      refine uZ ?_
      show I _=I _;congr 1;rw[hcp,ht,hk];rfl
     ·refine W.skip<|aA<|W.seq<|W.region rfl ?_
      refine agY rfl ?_
      refine agX rfl ?_
      refine cp (fun h' hE hL=>aii _ h' p.sh (-6) 6) ?_
      refine KU (xU rfl rfl) (congrArg Value.bool (akO p.sh (-6) 6)) rfl wn rfl rfl ?_
      refine pq ?_
      refine W.bC rfl (fun c36=>?_) (fun c36=>?_)
      ·refine W.seq<|W.region rfl<|agb rfl rfl rfl<|pq<|W.ret<|cZ<|aY<|aY<|cZ ?_
       refine aY ?_
       have hk:gW p=1:=by rw[gW,if_neg (by intro h;rcases h with h | h <;>contradiction),if_neg (by omega),if_pos (by assumption)]
       refine uZ ?_
       show I _=I _;congr 1;rw[hcp,ht,hk];rfl
      ·refine W.skip<|dI<|aA<|W.region rfl<|qm rfl rfl rfl ?_
       refine ag1 rfl ?_
       refine agb rfl rfl rfl<|pq ?_
       have hk:gW p=0:=by rw[gW,if_neg (by intro h;rcases h with h | h <;>contradiction),if_neg (by omega),if_neg (by assumption)]
       exact⟨rfl,i+1,⟨hil,by rw[ht,hk];rfl⟩,by omega,⟨rfl,rfl,trivial⟩,.skip rfl .refl⟩
  ·refine W.exit<|bP<|bP<|gG<|aA<|W.seq<|W.region rfl<|agb rfl rfl rfl<|pq ?_
   refine W.ret ?_
   obtain rfl:i=ps.length:=by omega
   refine uZ ?_
   show I _=I _;congr 1;rw[hcp,ht,List.drop_length];rfl
theorem akP{ps:List Pn}{q:Int}:kU ps [q]=if nV ps≠0 then nV ps else if outs q 0 12 then 1 else 0:=by
 unfold kU;simp
theorem ald(main:Side)(h:Hp)(ps:List Pn)(vp:Value)(q:Int)(hf:Sl h Pn.row vp ps):Pu prog main aky #[vp,I q] h (I (kU ps [q])):=by
 obtain⟨a,cap,rfl⟩:=hf.dA
 refine dV.aG akN rfl (by show 2≤14;decide) [(0,.slice a ps.length cap),(1,I q)] ⟨rfl,rfl,trivial⟩ ?_
 refine W.seq<|W.region rfl<|agb rfl rfl rfl<|pq<|W.seq<|W.seq<|W.region rfl<|qm rfl rfl rfl ?_
 refine cp (fun h' hE hL=>ak9 _ h' ps _ (hf.ext hE)) ?_
 refine agb rfl rfl rfl<|pq<|W.seq<|W.region rfl<|qm rfl rfl rfl ?_
 refine agW (nG rfl rfl rfl) rfl ?_
 refine pq ?_
 refine W.bC rfl (fun c9=>?_) (fun c9=>?_)
 ·refine W.seq<|W.region rfl<|qm rfl rfl rfl<|agb rfl rfl rfl<|pq<|W.ret<|aY ?_
  refine uZ ?_
  show I _=I _;congr 1;rw[akP,if_pos (by assumption)]
 ·refine W.skip<|aA<|W.seq<|W.seq<|W.region rfl<|qm rfl rfl rfl ?_
  refine cp (fun h' hE hL=>aii _ h' q 0 12) ?_
  refine KU (xU rfl rfl) (congrArg Value.bool (akO q 0 12)) rfl wn rfl rfl ?_
  refine pq ?_
  refine W.bC rfl (fun c13=>?_) (fun c13=>?_)
  ·refine W.seq<|W.region rfl<|agb rfl rfl rfl<|pq<|W.ret<|aY ?_
   refine uZ ?_
   show I _=I _;congr 1;rw[akP,if_neg (by assumption),if_pos (by assumption)]
  ·refine W.skip<|aA<|W.seq<|W.region rfl<|agb rfl rfl rfl<|pq<|W.ret ?_
   refine uZ ?_
   show I _=I _;congr 1;rw[akP,if_neg (by assumption),if_neg (by assumption)]
def TkF(ps:List Pn)(q:Int):List Nat×Int:=if kU ps [q]≠0 then([],kU ps [q])else((List.range ps.length).filter fun i=>P9 ps q i,0)
theorem aln{ps:List Pn}{q:Int}:(TkF ps q).1.length≤4:=by
 unfold TkF
 split
 ·simp
 ·rename_i h
  have h4:ps.length≤4:=(Sj (by simpa using h)).1.len
  exact Nat.le_trans (List.length_filter_le ..) (by simpa using h4)
theorem ak_(main:Side)(h:Hp)(ps:List Pn)(vp:Value)(q:Int)(hf:Sl h Pn.row vp ps):dV prog main akt #[vp,I q] h [] (fun v A=>∃w S,v= .tuple #[w,I (TkF ps q).2]∧Os dL fH w (zs (TkF ps q).1) S∧Sb S A):=by
 obtain⟨a,cap,rfl⟩:=hf.dA
 refine dV.aG akL rfl (by show 2≤32;decide) [(0,.slice a ps.length cap),(1,I q)] ⟨rfl,rfl,trivial⟩ ?_
 refine W.seq<|W.region rfl<|agb rfl rfl rfl<|agb rfl rfl rfl<|pq<|W.seq<|W.seq<|W.region rfl<|qm rfl rfl rfl ?_
 refine qm rfl rfl rfl ?_
 refine cp (fun h' hE hL=>ald _ h' ps _ q (hf.ext hE)) ?_
 refine agb rfl rfl rfl<|pq<|W.seq<|W.region rfl<|qm rfl rfl rfl ?_
 refine agW (nG rfl rfl rfl) rfl ?_
 refine pq ?_
 refine W.bC rfl (fun c13=>?_) (fun c13=>?_)
 ·refine W.seq<|W.region rfl<|qm rfl rfl rfl<|agb rfl rfl rfl<|agb rfl rfl rfl<|pq<|W.ret<|aY ?_
  refine mg (vs:=[_,_]) ?_
  rw[TkF,if_pos (by assumption)]
  exact⟨_,[],rfl,.nil .nil,.nil (by repeat(first | exact Shut.nil | refine Shut.cons rfl ?_))⟩
 ·have h0:kU ps [q]=0:=by simpa using c13
  have h4:ps.length≤4:=(Sj h0).1.len
  refine W.skip<|aA<|W.seq<|W.region rfl<|agb rfl rfl rfl<|pq<|W.seq<|W.seq<|W.region rfl ?_
  refine agb rfl rfl rfl<|pq<|W.block ?_
  refine W.Js (fun(k:Nat) (v:Value) (S:ah)=>k≤ps.length∧Os dL fH v (zs ((List.range k).filter fun i=>P9 ps q i)) S) (fun k v S=>[(8,I k),(7,v),(0,.slice a ps.length cap),(1,I q)]) (fun k v S=>S) (fun k _ _=>ps.length-k) 0 (.slice none 0 0) [] ⟨Nat.zero_le _,.nil .nil⟩ ⟨rfl,rfl,rfl,rfl,trivial⟩ .refl ?_
  rintro k v S ⟨hk,hS⟩
  refine W.seq<|W.seq<|W.region rfl<|qm rfl rfl rfl<|qm rfl rfl rfl ?_
  refine agW (dM rfl rfl) rfl ?_
  refine agW (fO rfl rfl rfl) rfl ?_
  refine pq ?_
  refine W.bC rfl (fun c18=>?_) (fun c18=>?_)
  ·have hkl:k<ps.length:=by omega
   have hlen:(zs ((List.range k).filter fun i=>P9 ps q i)).length≤4:=by rw[kT];exact Nat.le_trans (List.length_filter_le ..) (by simp;omega)
   obtain⟨p,hp,-⟩:=has hkl
   have hta:P9 ps q k=p.takes q:=by unfold P9;rw[hp]
   obtain⟨b,off,c,E,fz,hv,hb,hx,hy,hz⟩:=hf.at hp
   cases hv
   have hx':c.extract (off+k*3) (off+k*3+3)= #[I p.lo,I p.hi,I p.sh]:=hx
   clear hx hz
   refine W.skip<|aA<|W.seq<|W.block<|W.seq<|W.region rfl<|qm rfl rfl rfl<|qm rfl rfl rfl ?_
   refine ag3 rfl ?_
   refine ag2 rfl ?_
   refine qm rfl rfl rfl ?_
   refine cp (fun h' hE hL=>aik _ h' p q) ?_
   refine pq ?_
   refine W.cond rfl (fun c26=>?_) (fun c26=>?_)
   ·refine W.region rfl<|qm rfl rfl rfl<|qm rfl rfl rfl ?_
    refine Ops.NK (cs:= #[I k]) (fun am3=>?_) rfl
    refine oe rfl wn rfl rfl (iW (row:=fH) (l':=[(k:Int)]) rfl rfl rfl hS (.tail .all) (fun h2 _ hl=>Sl.mk (hl am3 _ (.head _)) rfl (Part.all [I k])) (by simp;omega) (by decide) rfl (fun v' S' hS'=>?_))
    refine agb rfl rfl rfl<|Ops.nil<|dI<|aA<|W.region rfl<|qm rfl rfl rfl ?_
    refine ag1 rfl ?_
    refine agb rfl rfl rfl<|pq ?_
    exact⟨rfl,k+1,v',S',⟨by omega,by rw[List.range_succ,List.filter_append,X3];simpa[zs,hta,c26]using hS'⟩,by omega,⟨rfl,rfl,rfl,rfl,trivial⟩,.skip rfl .refl⟩
   ·refine W.skip<|dI<|aA<|W.region rfl<|qm rfl rfl rfl ?_
    refine ag1 rfl ?_
    refine agb rfl rfl rfl<|pq ?_
    exact⟨rfl,k+1,v,S,⟨by omega,by rw[List.range_succ,List.filter_append,X3];simpa[zs,hta,c26]using hS⟩,by omega,⟨rfl,rfl,rfl,rfl,trivial⟩,.refl⟩
  ·refine W.exit<|bP<|bP<|gG<|aA<|W.seq<|W.region rfl<|qm rfl rfl rfl<|agb rfl rfl rfl<|agb rfl rfl rfl ?_
   refine pq<|W.ret ?_
   obtain rfl:k=ps.length:=by omega
   refine mg (vs:=[_,_]) ?_
   rw[TkF,if_neg (by assumption)]
   exact⟨_,S,rfl,hS,.refl⟩
end Go.aS

/- Ways made of numbers. Conditions: none; over the given program. -/
namespace Go.aS
set_option maxRecDepth 100000
set_option maxHeartbeats 4000000
theorem alo{ps:List Pn}{q:Int}{n:Nat}(h:n∈(TkF ps q).1):n<ps.length:=by
 unfold TkF at h
 split at h
 ·cases h
 ·exact List.mem_range.1 (List.mem_filter.1 h).1
theorem alK{ps:List Pn}{q:Int}(h:(TkF ps q).2=0):kU ps [q]=0:=by
 refine Classical.byContradiction fun hn=>?_
 rw[TkF,if_pos hn]at h;exact hn h
theorem alf(main:Side)(h:Hp)(nums:List Int)(lv:Value)(b k:Nat)(s:Int)(ps:List Pn)(vp:Value)(q:Int)(hl:Sl h fH lv nums)(hk:k≤50000)(hf:Sl h Pn.row vp ps)(hp2:ps.length≤1000):dV prog main aks #[bI b,vp,I q] h [(b,wF lv k s)]
  (fun v A=>∃way Sw k' s',Os dL fH v (zs way) Sw∧(way.length≤41∧∀y∈way,y≤4)∧k'≤k+300∧Sb ((b,wF lv k' s')::Sw) A):=by
 obtain⟨a,cap,rfl⟩:=hf.dA
 refine dV.aG akK rfl (by show 3≤55;decide) [(0,bI b),(1,.slice a ps.length cap),(2,I q)] ⟨rfl,rfl,rfl,trivial⟩ ?_
 refine W.seq<|W.region rfl<|agb rfl rfl rfl<|pq<|W.seq<|W.region rfl<|agb rfl rfl rfl<|pq ?_
 refine W.seq<|W.seq<|W.region rfl<|qm rfl rfl rfl ?_
 refine Ops.NK (cs:= #[I 0,I 1,I 2,I 3,I 6,I 41]) (fun X5=>?_) rfl
 refine cg (A:=[(b,_)]) (.tail .all) (fun h' hE hL=>YM _ h' nums lv b k s [0,1,2,3,6,41] _ (hl.ext hE) (Sl.mk (hL X5 _ (.head _)) rfl (Part.all [I 0,I 1,I 2,I 3,I 6,I 41])) (by omega) (by simp) (by simp)) (fun v A' hv=>?_)
 obtain⟨r,s1,rfl,hr,hsb⟩:=hv
 refine Ops.sb (F':=[(b,wF lv (k+1) s1)]) (.skip rfl hsb) ?_
 obtain⟨i0,rfl,hi0⟩:∃n:Nat,r=n∧n≤41:=by
  simp only[List.mem_cons,List.not_mem_nil,or_false]at hr
  exact⟨r.toNat,by omega,by omega⟩
 refine agb rfl rfl rfl<|pq<|W.block ?_
 refine W.loop (σ:=Nat×List Nat×Value×ah×Nat×Int×Int) (fun t=>t.1+t.2.1.length≤41∧Os dL fH t.2.2.1 (zs t.2.1) t.2.2.2.1∧(∀y∈t.2.1,y≤4)∧t.2.2.2.2.1+3*t.1≤k+200) (fun t=>[(8,I t.1),(7,t.2.2.1),(0,bI b),(1,.slice a ps.length cap),(2,I t.2.2.2.2.2.2)])
  (fun t=>(b,wF lv t.2.2.2.2.1 t.2.2.2.2.2.1)::t.2.2.2.1) (fun t=>t.1) (i0,[],.slice none 0 0,[],k+1,s1,q) ⟨by simpa using hi0,.nil .nil,(fun y hy=>by cases hy),by dsimp only;omega⟩ ⟨rfl,rfl,rfl,rfl,rfl,trivial⟩ .refl ?_
 clear hi0 hr hsb
 rintro⟨i,way,v,S,k1,s2,q⟩ ⟨hi,hS,hy4,hk1⟩
 dsimp only at*
 refine W.seq<|W.seq<|W.region rfl<|qm rfl rfl rfl ?_
 refine agW (rC rfl rfl rfl) rfl ?_
 refine pq ?_
 refine W.bC rfl (fun c16=>?_) (fun c16=>?_)
 ·have hi1:1≤i:=by omega
  refine W.skip<|aA<|W.seq<|W.block<|W.seq<|W.region rfl<|qm rfl rfl rfl<|qm rfl rfl rfl ?_
  refine c0 (fun h' hE hL=>ak_ _ h' ps _ q (hf.ext hE)) (fun v' A' hv=>?_)
  obtain⟨w,S2,rfl,hS2,Oh⟩:=hv
  refine Ops.sb (F':=S2++((b,wF lv k1 s2)::S)) (Oh.app .refl) ?_
  obtain⟨aw,cw,rfl⟩:=hS2.dA
  rw[kT]
  have hTl:=aln (ps:=ps) (q:=q)
  refine qm rfl rfl rfl<|oq (bD rfl rfl rfl) rfl wn rfl rfl<|oq (bD rfl rfl rfl) rfl wn rfl rfl<|agb rfl rfl rfl<|agb rfl rfl rfl<|pq<|W.seq<|W.seq<|W.region rfl ?_
  refine qm rfl rfl rfl ?_
  refine agW (nG rfl rfl rfl) rfl ?_
  refine qm rfl rfl rfl ?_
  refine Ops.ask (fun ads=>?_) (fun ads=>?_)
  ·refine Ops.no ?_
   refine Ops.no ?_
   refine Ops.no ?_
   refine agW (dG rfl rfl rfl) rfl ?_
   refine pq ?_
   refine W.dW ?_
   refine W.seq<|W.region rfl<|qm rfl rfl rfl<|agb rfl rfl rfl<|pq<|W.ret<|aY<|cZ<|aY ?_
   refine aY<|cZ<|aY ?_
   exact mg (vs:=[_]) ⟨way,S,k1,s2,hS,⟨by omega,hy4⟩,by omega,.left .refl hS2.shut⟩
  ·refine oq (aN rfl rfl) rfl (ak rfl rfl rfl) rfl rfl ?_
   refine oq (dM rfl rfl) rfl (ak rfl rfl rfl) rfl rfl ?_
   refine oq (nD rfl rfl rfl) rfl (ak rfl rfl rfl) rfl rfl ?_
   refine agW (iH rfl rfl rfl) rfl ?_
   refine pq ?_
   refine W.bC rfl (fun c31=>?_) (fun c31=>?_)
   ·refine W.seq<|W.region rfl<|qm rfl rfl rfl<|agb rfl rfl rfl<|pq<|W.ret<|aY<|cZ<|aY ?_
    refine aY<|cZ<|aY ?_
    exact mg (vs:=[_]) ⟨way,S,k1,s2,hS,⟨by omega,hy4⟩,by omega,.left .refl hS2.shut⟩
   ·have h0:kU ps [q]=0:=alK (by omega)
    obtain⟨hok,hq0,hq12⟩:=Sj h0
    refine W.skip<|aA<|W.seq<|W.region rfl<|qm rfl rfl rfl<|qm rfl rfl rfl ?_
    refine cg (A:=[(b,wF lv k1 s2)]) (.app .head) (fun h' hE hL=>YM _ h' nums lv b k1 s2 (zs (TkF ps q).1) _ (hl.ext hE) (by have:=hS2.sl (fun b o hb=>hL b o (List.mem_append_left _ hb));rw[kT]at this;exact this) (by omega) (by rw[kT];omega) (by rw[kT];omega)) (fun v' A' hv=>?_)
    obtain⟨r,s3,rfl,hr,afy⟩:=hv
    obtain⟨n0,hn0,rfl⟩:=List.mem_map.1 hr
    have anG:=alo hn0
    have anH:=hok.len
    refine Ops.sb (F':=[(b,wF lv (k1+1) s3)]++S) (.left (afy.app .refl) hS2.shut) ?_
    refine agb rfl rfl rfl<|pq<|W.seq ?_
    refine W.aiB (σ:=Nat×Nat×Int) (fun t=>t.1≤4∧t.2.1≤k1+3) (fun t=>[(11,I t.1),(8,I i),(7,v),(0,bI b),(1,.slice a ps.length cap),(2,I q)]) (fun t=>(b,wF lv t.2.1 t.2.2)::S) ?_ ?_
    ·refine W.seq<|W.region rfl<|qm rfl rfl rfl ?_
     refine cg (A:=[(b,wF lv (k1+1) s3)]) .head (fun h' hE hL=>VP _ h' nums lv b (k1+1) s3 30 (hl.ext hE) (by omega) (by omega)) (fun v' A' hv=>?_)
     obtain⟨rb,s4,rfl,af4⟩:=hv
     refine Ops.sb (F':=[(b,wF lv (k1+1+1) s4)]++S) (af4.app .refl) ?_
     refine pq ?_
     refine W.cond rfl (fun c37=>?_) (fun c37=>?_)
     ·refine W.region rfl<|qm rfl rfl rfl ?_
      refine cg (A:=[(b,wF lv (k1+1+1) s4)]) .head (fun h' hE hL=>UC _ h' nums lv b (k1+1+1) s4 4 (hl.ext hE) (by omega) (by omega)) (fun v' A' hv=>?_)
      obtain⟨r5,s5,rfl,hr5,afA⟩:=hv
      refine Ops.sb (F':=[(b,wF lv (k1+1+1+1) s5)]++S) (afA.app .refl) ?_
      obtain⟨n5,rfl⟩:∃n:Nat,r5=n:=⟨r5.toNat,by omega⟩
      refine agb rfl rfl rfl<|Ops.nil ?_
      exact⟨rfl,rfl,(n5,k1+1+1+1,s5),⟨by dsimp only;omega,by dsimp only;omega⟩,⟨rfl,rfl,rfl,rfl,rfl,rfl,trivial⟩,.refl⟩
     ·refine W.skip ?_
      exact⟨rfl,rfl,(n0,k1+1+1,s4),⟨by dsimp only;omega,by dsimp only;omega⟩,⟨rfl,rfl,rfl,rfl,rfl,rfl,trivial⟩,.refl⟩
    ·rintro⟨n,k2,s6⟩ ⟨hn4,hk2⟩
     dsimp only at*
     obtain⟨av,cv,rfl⟩:=hS.dA
     have hlen:(zs way).length≤41:=by rw[kT];omega
     refine W.seq<|W.region rfl<|qm rfl rfl rfl<|qm rfl rfl rfl ?_
     refine Ops.NK (cs:= #[I n]) (fun am4=>?_) rfl
     refine oe rfl wn rfl rfl (iW (row:=fH) (l':=[(n:Int)]) rfl rfl rfl hS (.tail (.tail .all)) (fun h2 _ hl=>Sl.mk (hl am4 _ (.head _)) rfl (Part.all [I n])) (by simp;omega) (by decide) rfl (fun v' S' hS'=>?_))
     have hS9:Os dL fH v' (zs (way++[n])) S':=by rw[X3];exact hS'
     have hy9:∀y∈way++[n],y≤4:=fun y hy=>by
      rcases List.mem_append.1 hy with h | h
      ·exact hy4 y h
      ·rw[List.mem_singleton.1 h];exact hn4
     refine agb rfl rfl rfl<|pq<|W.seq<|W.region rfl<|qm rfl rfl rfl<|qm rfl rfl rfl ?_
     refine agW (dM rfl rfl) rfl ?_
     refine agW (fO rfl rfl rfl) rfl ?_
     refine pq ?_
     refine W.bC rfl (fun c47=>?_) (fun c47=>?_)
     ·have hnl:n<ps.length:=by omega
      obtain⟨x,hx,-⟩:=has hnl
      have hxk:=hok.pan x (List.mem_of_getElem? hx)
      obtain⟨bb,off,c,E,fz,hv,hb,hxx,hyy,hz⟩:=hf.at hx
      cases hv
      have hx':c.extract (off+n*3) (off+n*3+3)= #[I x.lo,I x.hi,I x.sh]:=hxx
      clear hxx hz
      refine W.region rfl<|qm rfl rfl rfl<|qm rfl rfl rfl ?_
      refine ag3 rfl ?_
      refine ag2 rfl ?_
      refine qm rfl rfl rfl ?_
      refine cp (fun h' hE hL=>ab_ _ h' x q (by omega) (by omega)) ?_
      refine agb rfl rfl rfl<|Ops.nil<|dI<|aA<|W.region rfl<|qm rfl rfl rfl ?_
      refine ag5 rfl ?_
      refine agb rfl rfl rfl<|pq ?_
      exact⟨rfl,(i-1,way++[n],v',S',k2,s6,x.out q),⟨by simp;omega,hS9,hy9,by dsimp only;omega⟩,by dsimp only;omega,⟨lk rfl (show I _=I _ by congr 1;dsimp only;omega),rfl,rfl,rfl,rfl,trivial⟩,.skip rfl .refl⟩
     ·refine W.skip<|dI<|aA<|W.region rfl<|qm rfl rfl rfl ?_
      refine ag5 rfl ?_
      refine agb rfl rfl rfl<|pq ?_
      exact⟨rfl,(i-1,way++[n],v',S',k2,s6,q),⟨by simp;omega,hS9,hy9,by dsimp only;omega⟩,by dsimp only;omega,⟨lk rfl (show I _=I _ by congr 1;dsimp only;omega),rfl,rfl,rfl,rfl,trivial⟩,.skip rfl .refl⟩
 ·refine W.exit<|bP<|bP<|gG<|aA<|W.seq<|W.region rfl<|qm rfl rfl rfl<|agb rfl rfl rfl<|Ops.nil ?_
  refine aA<|W.ret ?_
  exact mg (vs:=[_]) ⟨way,S,k1,s2,hS,⟨by omega,hy4⟩,by omega,.refl⟩
end Go.aS

/- A way gone along: where it leads, what comes out, what stops it. Conditions: none; no program in sight. -/
namespace Go.aS
set_option linter.unusedVariables false
def aj6(ps:List Pn):Nat→List Nat→Nat×Int
 | q,[]=>(q,0)
 | q,p::r=>if ps.length≤p then(q,3)else if P9 ps q p=false then(q,12)else aj6 ps (gy ps p q) r
def aj9(ps:List Pn):Nat→List Nat→List Nat
 | _,[]=>[]
 | q,p::r=>gy ps p q::aj9 ps (gy ps p q) r
theorem akd{ps:List Pn}:∀{w:List Nat} {q:Nat},(aj9 ps q w).length=w.length
 | [],q=>rfl
 | p::r,q=>by simp[aj9,akd]
theorem alN{ps:List Pn}:∀{w:List Nat} {q:Nat},∀x∈aj9 ps q w,x<13
 | [],q,x,h=>by cases h
 | p::r,q,x,h=>by
  rcases List.mem_cons.1 h with rfl | h
  ·exact AZ
  ·exact alN x h
end Go.aS

/- SyrupBoiled. Conditions: none; over the given program. -/
namespace Go.aS
set_option maxRecDepth 100000
set_option maxHeartbeats 4000000
theorem Os.room{α:Type}{row:α→List Value}{w:Nat}[Rw row w]{E:TypeId}{a:Option Addr}{n cap:Nat}{l:List α}{A:ah}(H:Os E row (.slice a n cap) l A):(a.map (·.spot)=some none∨a=none)∧l.length≤cap:=by
 rcases H with⟨rfl,e,-⟩ | ⟨β,c,cap',J,e,-,-,h,-,-⟩
 ·cases e;exact⟨.inr rfl,Nat.le_refl _⟩
 ·cases e;exact⟨.inl rfl,h⟩
theorem akF{ps:List Pn}:∀{w:List Nat} {q i:Nat},((aj6 ps q w).2=0→EO ps q (zs w) i= .ok (aj9 ps q w))∧((aj6 ps q w).2≠0→∃j,EO ps q (zs w) i= .error ((aj6 ps q w).2,j))
 | [],q,i=>⟨fun _=>rfl,fun h=>absurd rfl h⟩
 | p::r,q,i=>by
  have hz:zs (p::r)=(p:Int)::zs r:=rfl
  have ih:=akF (ps:=ps) (w:=r) (q:=gy ps p q) (i:=i+1)
  rw[aj6,hz,EO]
  by_cases h1:ps.length≤p
  ·rw[if_pos h1,if_pos (show outs (p:Int) 0 ((ps.length:Int)-1)from .inr (by omega))]
   exact⟨(fun h=>by cases h),fun _=>⟨i,rfl⟩⟩
  ·rw[if_neg h1,if_neg (show¬outs (p:Int) 0 ((ps.length:Int)-1) by unfold outs;omega),Int.toNat_natCast]
   by_cases h2:P9 ps q p=false
   ·rw[if_pos h2,if_pos h2]
    exact⟨(fun h=>by cases h),fun _=>⟨i,rfl⟩⟩
   ·rw[if_neg h2,if_neg h2]
    refine⟨fun h=>?_,fun h=>?_⟩
    ·rw[ih.1 h];rfl
    ·obtain⟨j,hj⟩:=ih.2 h
     exact⟨j,by rw[hj]⟩
theorem akG{ps:List Pn}{q:Nat}{w:List Nat}(h:nV ps=0)(hq:q<13):Aq ps q (zs w)=if 40<w.length then([],6)else if(aj6 ps q w).2=0 then(aj9 ps q w,0)else([],(aj6 ps q w).2):=by
 have hb:kU ps [(q:Int)]=0:=UH h (by omega) (by omega)
 rw[Aq,if_neg (by rw[hb];simp),kT,Int.toNat_natCast]
 split
 ·rfl
 ·by_cases h0:(aj6 ps q w).2=0
  ·rw[if_pos h0,akF.1 h0]
  ·obtain⟨j,hj⟩:=(akF (i:=0)).2 h0
   rw[if_neg h0,hj]
end Go.aS

/- All upside down. Conditions: none; no program in sight. -/
namespace Go.aS
set_option linter.unusedVariables false
def alB(p:Pn):Pn:=⟨12-p.hi,12-p.lo,-p.sh⟩
def akQ(ps:List Pn):List Pn:=ps.map alB
def m12(n:Nat):Nat:=12-n
theorem al_{p:Pn}(h:gW p=0):gW (alB p)=0:=by
 unfold gW at h
 split at h
 ·cases h
 ·rename_i h1
  split at h
  ·cases h
  ·rename_i h2
   split at h
   ·cases h
   ·rename_i h3
    unfold outs at h1 h3
    rw[gW,if_neg (by simp only[alB,outs];omega),if_neg (by simp only[alB];omega),if_neg (by simp only[alB,outs];omega)]
theorem amu{ps:List Pn}(h4:ps.length≤4)(h:∀p∈ps,gW p=0):nV (akQ ps)=0:=by
 have hk:∀qs:List Pn,(∀p∈qs,gW p=0)→lX qs=0:=by
  intro qs
  induction qs with
  | nil=>intro _;rfl
  | cons a qs ih=>intro ha;rw[lX,if_pos (ha a (by simp))];exact ih fun p hp=>ha p (by simp[hp])
 rw[nV,if_neg (by simp[akQ];omega)]
 refine hk _ fun p hp=>?_
 obtain⟨x,hx,rfl⟩:=List.mem_map.1 hp
 exact al_ (h x hx)
theorem alF{p:Pn}{q:Nat}(hq:q≤12):(alB p).takes (m12 q)=p.takes q:=by
 rw[Bool.eq_iff_iff]
 unfold Pn.takes
 simp only[Bool.and_eq_true,decide_eq_true_eq]
 show(12-p.hi≤((12-q:Nat):Int)∧((12-q:Nat):Int)≤12-p.lo)↔_
 omega
theorem ama{p:Pn}{q:Nat}(hq:q≤12):(alB p).out (m12 q)=12-p.out q:=by
 simp only[Pn.out,alB,m12];omega
theorem al0{ps:List Pn}{q i:Nat}(hq:q≤12):P9 (akQ ps) (m12 q) i=P9 ps q i:=by
 unfold P9 akQ
 rw[List.getElem?_map]
 cases ps[i]? with
 | none=>rfl
 | some p=>exact alF hq
theorem alx{ps:List Pn}{q i:Nat}(hq:q≤12)(hi:i<ps.length):gy (akQ ps) i (m12 q)=m12 (gy ps i q):=by
 unfold gy akQ
 rw[List.getElem?_map,List.getElem?_eq_getElem hi]
 simp only[Option.map_some,ama hq]
 have:0≤ps[i].out q∧ps[i].out q≤12:=by unfold Pn.out;omega
 unfold m12;omega
theorem alc{n:Nat}:m12 n≤12:=by unfold m12;omega
theorem alg{n:Nat}(h:n≤12):m12 (m12 n)=n:=by unfold m12;omega
theorem alO{ps:List Pn}{c q:Nat}(hq:q≤12):dO (akQ ps) c (m12 q)=(dO ps c q).map fun po=>(po.1,m12 po.2):=by
 have e:bQ (akQ ps) c (m12 q)=bQ ps c q:=by
  rw[bQ,bQ]
  exact List.filter_congr fun i _=>by rw[al0 hq]
 rw[dO,dO,e,List.map_map]
 refine List.map_congr_left fun i hi=>?_
 have:=EL hi
 rw[alx hq this];rfl
theorem aly{ps:List Pn}{c:Nat}:∀{v:List Nat} {q e:Nat},q≤12→e≤12→(qJ (dO (akQ ps) c) (m12 q) v (m12 e)↔qJ (dO ps c) q v e)
 | [],q,e,hq,he=>by
  show m12 q=m12 e↔q=e
  unfold m12;omega
 | p::r,q,e,hq,he=>by
  simp only[qJ,alO hq,List.mem_map]
  constructor
  ·rintro⟨o,⟨⟨p',o'⟩,h1,h2⟩,h3⟩
   cases h2
   have:=F9 _ _ _ h1
   exact⟨o',h1,(aly (by omega) he).1 h3⟩
  ·rintro⟨o,h1,h3⟩
   have:=F9 _ _ _ h1
   exact⟨m12 o,⟨(p,o),h1,rfl⟩,(aly (by omega) he).2 h3⟩
theorem alP{ps:List Pn}{c n q:Nat}(hq:q≤12):dD (dO (akQ ps) c) n (m12 q)=dD (dO ps c) n q:=by
 rw[Bool.eq_iff_iff,JJ,JJ]
 constructor
 ·rintro⟨v,e,h1,h2⟩
  have he:e<13:=acs F9 (by unfold m12;omega) h2
  refine⟨v,m12 e,h1,(aly hq alc).1 ?_⟩
  rw[alg (by omega)];exact h2
 ·rintro⟨v,e,h1,h2⟩
  have he:e<13:=acs F9 (by omega) h2
  exact⟨v,m12 e,h1,(aly hq (by omega)).2 h2⟩
theorem alT{ps:List Pn}{q:Nat}(hq:q≤12):dY (akQ ps) (m12 q)=dY ps q:=by
 rw[dY,dY,akQ,List.all_map,Bool.eq_iff_iff,List.all_eq_true,List.all_eq_true]
 simp only[Function.comp,alF hq]
theorem alU{ps:List Pn}{c:Nat}:∀{f q:Nat},q≤12→qN (dO (akQ ps) c) (fun k=>dY (akQ ps) k) f (m12 q)=qN (dO ps c) (fun k=>dY ps k) f q
 | 0,q,hq=>rfl
 | f+1,q,hq=>by
  rw[qN,qN,alO hq,List.foldl_map,alT hq]
  refine xG fun a ha b=>?_
  have:=F9 _ _ _ ha
  rw[alU (by omega)]
theorem alV{ps:List Pn}:∀{w:List Nat} {q:Nat},q≤12→(aj6 (akQ ps) (m12 q) w).2=(aj6 ps q w).2∧((aj6 ps q w).2=0→aj9 (akQ ps) (m12 q) w=(aj9 ps q w).map m12)
 | [],q,hq=>⟨rfl,fun _=>rfl⟩
 | p::r,q,hq=>by
  rw[aj6,aj6,show(akQ ps).length=ps.length by simp[akQ],al0 hq]
  by_cases h1:ps.length≤p
  ·rw[if_pos h1,if_pos h1];exact⟨rfl,fun h=>by cases h⟩
  ·rw[if_neg h1,if_neg h1]
   by_cases h2:P9 ps q p=false
   ·rw[if_pos h2,if_pos h2];exact⟨rfl,fun h=>by cases h⟩
   ·rw[if_neg h2,if_neg h2,alx hq (by omega)]
    have:=AZ (ps:=ps) (i:=p) (q:=q)
    obtain⟨h3,h4⟩:=alV (ps:=ps) (w:=r) (q:=gy ps p q) (by omega)
    refine⟨h3,fun h=>?_⟩
    rw[aj9,aj9,List.map_cons,alx hq (by omega),h4 h]
theorem alX:(List.range 13).reverse=(List.range 13).map m12:=by decide
theorem al1{f g:Nat→Bool}(h:∀k,k<13→g k=f (m12 k)):((List.range 13).filter g)=(((List.range 13).filter f).map m12).reverse:=by
 rw[←List.map_reverse,←List.filter_reverse,alX,List.filter_map,List.map_map]
 rw[List.filter_congr (q:=f∘m12) fun k hk=>h k (List.mem_range.1 hk)]
 rw[List.map_congr_left (g:=id) fun k hk=>by
  have:=List.mem_range.1 (List.mem_filter.1 hk).1
  exact alg (by omega),List.map_id]
end Go.aS

/- SyrupMirror. Conditions: none; over the given program. -/
namespace Go.aS
set_option maxRecDepth 100000
set_option maxHeartbeats 4000000
theorem als(main:Side)(h:Hp)(l m:List Nat)(vl vm:Value)(hl:Sl h fH vl (zs l))(hm:Sl h fH vm (zs m))(hlm:l.length=m.length)(hn:l.length≤100)(hx:∀i x,l[i]? =some x→x≤12∧m[m.length-1-i]? =some (m12 x)):Pu prog main akC #[vl,vm] h (.bool true):=by
 obtain⟨a,cap,rfl⟩:=hl.dA
 obtain⟨a2,cap2,rfl⟩:=hm.dA
 refine dV.aG alb rfl (by show 2≤31;decide) [(0,.slice a (zs l).length cap),(1,.slice a2 (zs m).length cap2)] ⟨rfl,rfl,trivial⟩ ?_
 rw[kT]at hl hm⊢
 rw[kT]
 refine W.seq<|W.region rfl<|agb rfl rfl rfl<|pq<|W.seq<|W.seq<|W.region rfl<|qm rfl rfl rfl ?_
 refine agW (dM rfl rfl) rfl ?_
 refine qm rfl rfl rfl ?_
 refine agW (dM rfl rfl) rfl ?_
 refine agW (nG rfl rfl rfl) rfl ?_
 refine pq ?_
 refine W.bC rfl (fun c10=>?_) (fun c10=>?_)
 ·refine W.seq<|W.region rfl<|agb rfl rfl rfl<|pq<|W.ret<|aY ?_
  exfalso;omega
 ·refine W.skip<|aA<|W.seq<|W.seq<|W.region rfl<|agb rfl rfl rfl<|pq<|W.block ?_
  refine W.loop (σ:=Nat) (fun i=>i≤l.length) (fun i=>[(5,I i),(0,.slice a l.length cap),(1,.slice a2 m.length cap2)]) (fun _=>[]) (fun i=>l.length-i) 0 (Nat.zero_le _) ⟨rfl,rfl,rfl,trivial⟩ .refl ?_
  rintro i hi
  refine W.seq<|W.seq<|W.region rfl<|qm rfl rfl rfl<|qm rfl rfl rfl ?_
  refine agW (dM rfl rfl) rfl ?_
  refine agW (fO rfl rfl rfl) rfl ?_
  refine pq ?_
  refine W.bC rfl (fun c14=>?_) (fun c14=>?_)
  ·have hil:i<l.length:=by omega
   obtain⟨x,hx1,-⟩:=has hil
   obtain⟨aoh,hmx⟩:=hx i x hx1
   obtain⟨b,off,c,E,fz,hv,hb,-,-,hz⟩:=hl.at (show(zs l)[i]? =some (x:Int) by rw[zs,List.getElem?_map,hx1];rfl)
   cases hv
   have hc:c[off+i*1]? =some (I x):=hz 0 (by decide)
   obtain⟨b2,off2,c2,E2,fz2,hv2,hb2,-,-,hz2⟩:=hm.at (show(zs m)[m.length-1-i]? =some (m12 x:Int) by rw[zs,List.getElem?_map,hmx];rfl)
   cases hv2
   have hc2:c2[off2+(m.length-1-i)*1]? =some (I (m12 x)):=hz2 0 (by decide)
   have hlt:m.length-1-i<m.length:=by omega
   have hmm:m12 x≤12:=alc
   refine W.skip<|aA<|W.seq<|W.block<|W.seq ?_
   refine W.rE (n:=14) rfl ?_
   refine xq 0 (aN rfl rfl) rfl ?_
   refine xq 1 (aN rfl rfl) rfl ?_
   first | refine xq 2 (G_ rfl rfl rfl) rfl ?_ | refine xq 2 (o_ rfl rfl rfl) rfl ?_
   refine xq 3 (iQ rfl rfl) rfl ?_
   refine xq 4 (aN rfl rfl) rfl ?_
   refine xq 5 (aN rfl rfl) rfl ?_
   refine xq 6 (dM rfl rfl) rfl ?_
   first | refine xq 7 (acL rfl rfl rfl) rfl ?_ | refine xq 7 (M_ rfl rfl rfl) rfl ?_
   refine xq 8 (aN rfl rfl) rfl ?_
   refine aqe (i:=9) (acL rfl rfl rfl) (congrArg (Value.int .i64) (show(m.length:Int)-1- (i:Int)=((m.length-1-i:Nat):Int) by omega)) rfl an rfl rfl ?_
   first | refine xq 10 (G_ rfl rfl rfl) rfl ?_ | refine xq 10 (o_ rfl rfl rfl) rfl ?_
   refine xq 11 (iQ rfl rfl) rfl ?_
   first | refine xq 12 (acL rfl rfl rfl) rfl ?_ | refine xq 12 (M_ rfl rfl rfl) rfl ?_
   refine aqe (i:=13) (nG rfl rfl rfl) (congrArg Value.bool (show decide ((x:Int)≠12- (m12 x:Int))=false from decide_eq_false (by unfold m12;omega))) rfl an rfl rfl ?_
   refine az ?_
   refine aA ?_
   refine W.bZ ?_
   refine W.skip<|dI<|aA<|W.region rfl<|qm rfl rfl rfl ?_
   refine ag1 rfl ?_
   refine agb rfl rfl rfl<|pq ?_
   exact⟨rfl,i+1,hil,by omega,⟨rfl,rfl,rfl,trivial⟩,.refl⟩
  ·refine W.exit<|bP<|bP<|gG<|aA<|W.seq<|W.region rfl<|agb rfl rfl rfl<|pq ?_
   refine W.ret ?_
   exact uZ rfl
theorem alW{ps:List Pn}{q e:Nat}(hq:q<13):enB ps (Ah (dO ps 0) q) e=true↔(∃v,qJ (dO ps 0) q v e)∧dY ps e=true:=by
 obtain⟨met,H⟩:=aee afX (q:=q) (g:=dO ps 0) F9
 rw[enB,List.any_eq_true]
 constructor
 ·rintro⟨w,hw,h⟩
  simp only[Bool.and_eq_true,decide_eq_true_eq]at h
  obtain⟨rfl,h⟩:=h
  exact⟨⟨w.1,H.path w (by simpa using hw)⟩,h⟩
 ·rintro⟨⟨v,hv⟩,ht⟩
  obtain⟨w,hw,h1,-⟩:=H.all v e hv
  exact⟨w,hw,by rw[h1,ht];simp⟩
theorem amv{ps:List Pn}{q k:Nat}(hq:q≤12)(hk:k<13):enB (akQ ps) (Ah (dO (akQ ps) 0) (m12 q)) k=enB ps (Ah (dO ps 0) q) (m12 k):=by
 rw[Bool.eq_iff_iff,alW (by unfold m12;omega),alW (by omega)]
 have e:k=m12 (m12 k):=(alg (by omega)).symm
 rw[e,alT alc,alg alc]
 simp only[aly hq alc]
theorem alH{f g:Nat→Bool}(h:∀k,k<13→g k=f (m12 k)):(qsL f).length=(qsL g).length∧∀i x,(qsL f)[i]? =some x→x≤12∧(qsL g)[(qsL g).length-1-i]? =some (m12 x):=by
 have e:qsL g=((qsL f).map m12).reverse:=al1 h
 have hl:(qsL g).length=(qsL f).length:=by rw[e];simp
 refine⟨hl.symm,fun i x hx=>?_⟩
 have hi:i<(qsL f).length:=(List.getElem?_eq_some_iff.1 hx).1
 have:=(afm.1 (List.mem_of_getElem? hx)).1
 refine⟨by omega,?_⟩
 rw[hl,e,List.getElem?_reverse (by simp;omega),List.length_map,show(qsL f).length-1- ((qsL f).length-1-i)=i by omega,List.getElem?_map,hx]
 rfl
theorem alI{ps:List Pn}{q:Nat}(h:nV ps=0)(h':nV (akQ ps)=0)(hq:q≤12):qh (akQ ps) (m12 q)=qh ps q:=by
 have h1:kU ps [(q:Int)]=0:=UH h (by omega) (by omega)
 have h2:kU (akQ ps) [(m12 q:Int)]=0:=UH h' (by omega) (by have:=alc (n:=q);omega)
 have e1:qh ps q=if dD (dO ps 0) 13 q=true then((0,0),9)else(og (dO ps 0) (fun k=>dY ps k) q,0):=by
  rw[qh,if_neg (by rw[h1];simp),Int.toNat_natCast]
 have e2:qh (akQ ps) (m12 q)=if dD (dO (akQ ps) 0) 13 (m12 q)=true then((0,0),9)else(og (dO (akQ ps) 0) (fun k=>dY (akQ ps) k) (m12 q),0):=by
  rw[qh,if_neg (by rw[h2];simp),Int.toNat_natCast]
 rw[e1,e2,alP hq,show og (dO (akQ ps) 0) (fun k=>dY (akQ ps) k) (m12 q)=og (dO ps 0) (fun k=>dY ps k) q from alU hq]
theorem al2{ps:List Pn}{q:Nat}{w:List Nat}(h:nV ps=0)(h':nV (akQ ps)=0)(hq:q≤12):Aq (akQ ps) (m12 q) (zs w)=((Aq ps q (zs w)).1.map m12,(Aq ps q (zs w)).2):=by
 rw[akG h (by omega),akG h' (by have:=alc (n:=q);omega)]
 obtain⟨h1,h2⟩:=alV (ps:=ps) (w:=w) hq
 split
 ·rfl
 ·rw[h1]
  split
  ·rename_i h0;rw[h2 h0]
  ·rfl
theorem alu(main:Side)(hS:∀S,main.ok S→∃Fin,S=Mo prog Fin)(hmb:main.b=true)(h:Hp)(nums:List Int)(lv:Value)(Eg:TypeId)(zg:Nat×Nat)(hl:Sl h fH lv nums)(hg:h 0=some (.cells #[Ur qM] Eg zg))(z0:h.z 0):QE prog main aki #[lv] h (.bool true):=by
 refine QE.aG ak5 rfl (by show 1≤191;decide) [(0,lv)] ⟨rfl,trivial⟩ ?_
 refine W.seq<|W.region rfl<|agb rfl rfl rfl<|pq<|W.seq<|W.region rfl<|qm rfl rfl rfl ?_
 refine c0 (fun h' hE hL=>VQ _ h' nums lv (hl.ext hE)) (fun v A' hv=>?_)
 obtain⟨b,s0,rfl,rfl⟩:=hv
 refine agb rfl rfl rfl<|pq<|W.seq<|W.region rfl<|qm rfl rfl rfl ?_
 refine cg (A:=[(b,wF lv 0 s0)]) .head (fun h' hE hL=>VT _ h' nums lv b 0 s0 4 (hl.ext hE) (by omega) (by omega)) (fun v A' hv=>?_)
 obtain⟨ps,Sp,k',s',hO,⟨hpl,hck⟩,hk',hsb⟩:=hv
 refine Ops.sb (F':=[(b,wF lv k' s')]++Sp) (by simpa using hsb) ?_
 have hps:=aaD hpl hck
 have hok:=iP.yB hps
 have h4:=hok.len
 have hpm:=amu hpl hck
 refine qm rfl rfl rfl ?_
 refine cg (A:=[(b,wF lv k' s')]) .head (fun h' hE hL=>UC _ h' nums lv b k' s' 12 (hl.ext hE) (by omega) (by omega)) (fun v A' hv=>?_)
 obtain⟨q,s2,rfl,hq,Oh⟩:=hv
 refine Ops.sb (F':=Sp++[(b,wF lv (k'+1) s2)]) (Sb.trans (.dF List.perm_append_comm) (Oh.app .refl)) ?_
 obtain⟨q,rfl⟩:∃n:Nat,q=n:=⟨q.toNat,by omega⟩
 have hq12:q≤12:=by omega
 have aoi:m12 q≤12:=alc
 refine agb rfl rfl rfl<|agb rfl rfl rfl<|pq ?_
 refine JU hO (fun hz hEz hsl hzs=>?_)
 obtain⟨a,cap,rfl⟩:=hsl.dA
 have hgz:=hEz.1 _ _ hg
 refine W.seq<|W.region rfl<|qm rfl rfl rfl<|qm rfl rfl rfl<|qm rfl rfl rfl ?_
 refine cg (A:=[(b,wF lv (k'+1) s2)]) .all (fun h' hE hL=>alf _ h' nums lv b (k'+1) s2 ps _ q (hl.ext (hEz.trans hE)) (by omega) (hsl.ext hE) (by omega)) (fun v A' hv=>?_)
 obtain⟨w,Sw,k3,s3,hOw,⟨anI,hw4⟩,-,afy⟩:=hv
 refine Ops.sb (F':=Sw++[]) (by rw[List.append_nil];exact(Sb.skip rfl .refl).trans afy) ?_
 obtain⟨av,cv,rfl⟩:=hOw.dA
 refine agb rfl rfl rfl<|pq ?_
 refine JU hOw (fun hz2 agM ak6 _=>?_)
 rw[kT]at ak6⊢
 replace hgz:=agM.1 _ _ hgz
 replace hsl:=hsl.ext agM
 refine W.seq<|W.region rfl<|agb rfl rfl rfl<|pq<|W.seq<|W.seq<|W.region rfl<|agb rfl rfl rfl<|Ops.nil ?_
 refine aA<|W.block ?_
 refine W.Js (fun(i:Nat) (v:Value) (S:ah)=>i≤ps.length∧Os Ag Pn.row v (akQ (ps.take i)) S) (fun i v S=>[(8,I i),(7,v),(6,.slice av w.length cv),(5,I q),(4,.slice a ps.length cap)]) (fun i v S=>S) (fun i _ _=>ps.length-i) 0 (.slice none 0 0) [] ⟨Nat.zero_le _,.nil .nil⟩ ⟨rfl,rfl,rfl,rfl,rfl,trivial⟩ .refl ?_
 rintro i v S ⟨hi,hS1⟩
 refine W.seq<|W.seq<|W.region rfl<|qm rfl rfl rfl<|qm rfl rfl rfl ?_
 refine agW (dM rfl rfl) rfl ?_
 refine agW (fO rfl rfl rfl) rfl ?_
 refine pq ?_
 refine W.bC rfl (fun c33=>?_) (fun c33=>?_)
 ·have hil:i<ps.length:=by omega
  obtain⟨p,hp,-⟩:=has hil
  have hpk:=hok.pan p (List.mem_of_getElem? hp)
  obtain⟨bb,off,c,E,fz,hv,hb,hxx,hyy,hz9⟩:=hsl.at hp
  cases hv
  have h0:c[off+i*3+0]? =some (I p.lo):=hz9 0 (by decide)
  have h1:c[off+i*3+1]? =some (I p.hi):=hz9 1 (by decide)
  have h2:c[off+i*3+2]? =some (I p.sh):=hz9 2 (by decide)
  clear hxx hz9
  have hml:(akQ (ps.take i)).length≤4:=by simp[akQ];omega
  refine W.skip<|aA<|W.seq<|W.block ?_
  refine W.DR [] (n:=23) rfl ?_
  refine xq 0 (aN rfl rfl) rfl ?_
  refine xq 1 (aN rfl rfl) rfl ?_
  refine xq 2 (aN rfl rfl) rfl ?_
  first | refine xq 3 (G_ rfl rfl rfl) rfl ?_ | refine xq 3 (o_ rfl rfl rfl) rfl ?_
  refine xq 4 (ay rfl rfl) rfl ?_
  refine xq 5 (iQ rfl rfl) rfl ?_
  first | refine xq 6 (acL rfl rfl rfl) rfl ?_ | refine xq 6 (M_ rfl rfl rfl) rfl ?_
  refine xq 7 (aN rfl rfl) rfl ?_
  refine xq 8 (aN rfl rfl) rfl ?_
  first | refine xq 9 (G_ rfl rfl rfl) rfl ?_ | refine xq 9 (o_ rfl rfl rfl) rfl ?_
  refine xq 10 (ay rfl rfl) rfl ?_
  refine xq 11 (iQ rfl rfl) rfl ?_
  first | refine xq 12 (acL rfl rfl rfl) rfl ?_ | refine xq 12 (M_ rfl rfl rfl) rfl ?_
  refine xq 13 (aN rfl rfl) rfl ?_
  refine xq 14 (aN rfl rfl) rfl ?_
  first | refine xq 15 (G_ rfl rfl rfl) rfl ?_ | refine xq 15 (o_ rfl rfl rfl) rfl ?_
  refine xq 16 (ay rfl rfl) rfl ?_
  refine xq 17 (iQ rfl rfl) rfl ?_
  refine xq 18 (anF rfl rfl) rfl ?_
  refine xq 19 (eH (parts:=[⟨_,_⟩,⟨_,_⟩,⟨_,_⟩]) (cs:= #[I (12-p.hi),I (12-p.lo),I (-p.sh)]) rfl rfl rfl) rfl ?_
  refine abl (i:=20) (cs:= #[I (12-p.hi),I (12-p.lo),I (-p.sh)]) (fun afj=>?_) rfl (hf:=by kernel_rfl)
  refine ae (i:=21) rfl an rfl rfl (iW (row:=Pn.row) (l':=[alB p]) rfl rfl rfl hS1 (.tail .all) (fun h2 _ hl=>Sl.mk (hl afj _ (.head _)) rfl (Part.all (Pn.row (alB p)))) (by simp;omega) (by decide) rfl (fun v' S' hS'=>?_))
  refine⟨.inr Keeps.nil,?_⟩
  refine xq 22 (jS rfl rfl) rfl ?_
  refine az ?_
  refine dI<|aA<|W.region rfl<|qm rfl rfl rfl ?_
  refine ag1 rfl ?_
  refine agb rfl rfl rfl<|pq ?_
  exact⟨rfl,i+1,v',S',⟨hil,by rw[List.take_add_one,hp];simpa[akQ]using hS'⟩,by omega,⟨rfl,rfl,rfl,rfl,rfl,trivial⟩,.skip rfl .refl⟩
 ·obtain rfl:i=ps.length:=by omega
  rw[List.take_length]at hS1
  refine W.exit<|bP<|bP<|gG<|aA ?_
  refine W.sb (F':=S++[]) (by rw[List.append_nil];exact .refl) (JU hS1 (fun hz3 aiX hsm hzm=>?_))
  obtain⟨a2,cap2,rfl⟩:=hsm.dA
  replace hgz:=aiX.1 _ _ hgz
  replace hsl:=hsl.ext aiX
  replace ak6:=ak6.ext aiX
  refine W.seq<|W.region rfl<|qm rfl rfl rfl ?_
  refine c0 (fun h' hE hL=>afo _ h' ps _ (hsl.ext hE)) (fun v A' hv=>?_)
  obtain⟨w1,S1,rfl,hS1,af4⟩:=hv
  rw[ae4 hps]at hS1⊢
  dsimp only at hS1
  refine Ops.sb (F':=S1++[]) (by simpa using af4) ?_
  refine qm rfl rfl rfl<|oq (bD rfl rfl rfl) rfl wn rfl rfl<|oq (bD rfl rfl rfl) rfl wn rfl rfl<|agb rfl rfl rfl<|agb rfl rfl rfl<|pq<|W.seq<|W.region rfl<|qm rfl rfl rfl ?_
  refine c0 (fun h' hE hL=>afo _ h' (akQ ps) _ (hsm.ext hE)) (fun v A' hv=>?_)
  obtain⟨w2,S2,rfl,hS2,afA⟩:=hv
  rw[ae4 hpm]at hS2⊢
  dsimp only at hS2
  refine Ops.sb (F':=S2++(S1++[])) (afA.app .refl) ?_
  have hmE:=alH (f:=fun k=>dD (dO ps 0) 13 k) (g:=fun k=>dD (dO (akQ ps) 0) 13 k) fun k hk=>by
   rw[←alP (ps:=ps) (c:=0) (n:=13) alc,alg (by omega)]
  refine qm rfl rfl rfl<|oq (bD rfl rfl rfl) rfl wn rfl rfl<|oq (bD rfl rfl rfl) rfl wn rfl rfl<|agb rfl rfl rfl<|agb rfl rfl rfl<|pq<|W.seq<|W.seq<|W.region rfl ?_
  refine qm rfl rfl rfl ?_
  refine KU (nG rfl rfl rfl) (congrArg Value.bool (show decide ((0:Int)≠0)=false by decide)) rfl wn rfl rfl ?_
  refine qm rfl rfl rfl ?_
  refine oq (aN rfl rfl) rfl (ak rfl rfl rfl) rfl rfl ?_
  refine KU (nG rfl rfl rfl) (congrArg Value.bool (show decide ((0:Int)≠0)=false by decide)) rfl (ak rfl rfl rfl) rfl rfl ?_
  refine agW (iH rfl rfl rfl) rfl ?_
  refine qm rfl rfl rfl ?_
  refine oq (aN rfl rfl) rfl (ak rfl rfl rfl) rfl rfl ?_
  refine oq (aN rfl rfl) rfl (ak rfl rfl rfl) rfl rfl ?_
  refine cp (g:=some _) (fun h' hE hL=>als _ h' (qsL fun k=>dD (dO ps 0) 13 k) (qsL fun k=>dD (dO (akQ ps) 0) 13 k) _ _ (hS1.sl (fun b o hb=>hL b o (List.mem_append_right _ (List.mem_append_left _ hb)))) (hS2.sl (fun b o hb=>hL b o (List.mem_append_left _ hb))) hmE.1 (Nat.le_trans afn (by decide)) hmE.2) ?_
  refine oq (xU rfl rfl) rfl (ak rfl rfl rfl) rfl rfl ?_
  refine agW (iH rfl rfl rfl) rfl ?_
  refine pq ?_
  refine W.bZ ?_
  refine W.skip<|aA<|W.seq<|W.region rfl<|qm rfl rfl rfl<|qm rfl rfl rfl ?_
  refine c0 (fun h' hE hL=>aiH _ h' ps _ q (hsl.ext hE)) (fun v A' hv=>?_)
  obtain⟨w3,S3,hv3,hS3,anP⟩:=hv
  rw[EnF,if_neg (by rw[UH hps (by omega) (by omega)];simp),Int.toNat_natCast]at hv3 hS3
  dsimp only at hv3 hS3
  subst hv3
  refine Ops.sb (F':=S3++[]) (anP.app (.nil (hS2.shut.app (hS1.shut.app .nil)))) ?_
  refine qm rfl rfl rfl<|oq (bD rfl rfl rfl) rfl wn rfl rfl<|oq (bD rfl rfl rfl) rfl wn rfl rfl<|agb rfl rfl rfl<|agb rfl rfl rfl<|pq<|W.seq<|W.region rfl<|qm rfl rfl rfl ?_
  refine qm rfl rfl rfl ?_
  refine KU (acL rfl rfl rfl) (congrArg (Value.int .i64) (show(12:Int)- (q:Int)=((m12 q:Nat):Int) by unfold m12;omega)) rfl wn rfl rfl ?_
  refine c0 (fun h' hE hL=>aiH _ h' (akQ ps) _ (m12 q) (hsm.ext hE)) (fun v A' hv=>?_)
  obtain⟨w4,S4,hv4,hS4,anQ⟩:=hv
  rw[EnF,if_neg (by rw[UH hpm (by omega) (by omega)];simp),Int.toNat_natCast]at hv4 hS4
  dsimp only at hv4 hS4
  subst hv4
  refine Ops.sb (F':=S4++(S3++[])) (anQ.app .refl) ?_
  have hmN:=alH (f:=enB ps (Ah (dO ps 0) q)) (g:=enB (akQ ps) (Ah (dO (akQ ps) 0) (m12 q))) fun k hk=>amv hq12 hk
  refine qm rfl rfl rfl<|oq (bD rfl rfl rfl) rfl wn rfl rfl<|oq (bD rfl rfl rfl) rfl wn rfl rfl<|agb rfl rfl rfl<|agb rfl rfl rfl<|pq<|W.seq<|W.seq<|W.region rfl ?_
  refine qm rfl rfl rfl ?_
  refine KU (nG rfl rfl rfl) (congrArg Value.bool (show decide ((0:Int)≠0)=false by decide)) rfl wn rfl rfl ?_
  refine qm rfl rfl rfl ?_
  refine oq (aN rfl rfl) rfl (ak rfl rfl rfl) rfl rfl ?_
  refine KU (nG rfl rfl rfl) (congrArg Value.bool (show decide ((0:Int)≠0)=false by decide)) rfl (ak rfl rfl rfl) rfl rfl ?_
  refine agW (iH rfl rfl rfl) rfl ?_
  refine qm rfl rfl rfl ?_
  refine oq (aN rfl rfl) rfl (ak rfl rfl rfl) rfl rfl ?_
  refine oq (aN rfl rfl) rfl (ak rfl rfl rfl) rfl rfl ?_
  refine cp (g:=some _) (fun h' hE hL=>als _ h' _ _ _ _ (hS3.sl (fun b o hb=>hL b o (List.mem_append_right _ (List.mem_append_left _ hb)))) (hS4.sl (fun b o hb=>hL b o (List.mem_append_left _ hb))) hmN.1 (Nat.le_trans afn (by decide)) hmN.2) ?_
  refine oq (xU rfl rfl) rfl (ak rfl rfl rfl) rfl rfl ?_
  refine agW (iH rfl rfl rfl) rfl ?_
  refine pq ?_
  refine W.bZ ?_
  refine W.skip<|aA<|W.seq<|W.region rfl<|qm rfl rfl rfl<|qm rfl rfl rfl ?_
  refine Ops.sb (F':=[]) (.nil (hS4.shut.app (hS3.shut.app .nil))) ?_
  refine cp (fun h' hE hL=>J3 _ h' ps _ q (hsl.ext hE)) ?_
  refine qm rfl rfl rfl<|oq (bD rfl rfl rfl) rfl wn rfl rfl<|oq (bD rfl rfl rfl) rfl wn rfl rfl<|agb rfl rfl rfl<|agb rfl rfl rfl<|pq<|W.seq<|W.region rfl<|qm rfl rfl rfl ?_
  refine qm rfl rfl rfl ?_
  refine KU (acL rfl rfl rfl) (congrArg (Value.int .i64) (show(12:Int)- (q:Int)=((m12 q:Nat):Int) by unfold m12;omega)) rfl wn rfl rfl ?_
  refine cp (fun h' hE hL=>J3 _ h' (akQ ps) _ (m12 q) (hsm.ext hE)) ?_
  rw[alI hps hpm hq12]
  refine qm rfl rfl rfl<|oq (bD rfl rfl rfl) rfl wn rfl rfl<|oq (bD rfl rfl rfl) rfl wn rfl rfl<|agb rfl rfl rfl<|agb rfl rfl rfl<|pq<|W.seq<|W.region rfl<|qm rfl rfl rfl ?_
  refine qm rfl rfl rfl ?_
  refine cp (fun h' hE hL=>Yy _ h' ps _ q (hsl.ext hE)) ?_
  refine qm rfl rfl rfl<|oq (bD rfl rfl rfl) rfl wn rfl rfl<|oq (bD rfl rfl rfl) rfl wn rfl rfl<|agb rfl rfl rfl<|agb rfl rfl rfl<|pq<|W.seq<|W.region rfl<|qm rfl rfl rfl ?_
  refine qm rfl rfl rfl ?_
  refine KU (acL rfl rfl rfl) (congrArg (Value.int .i64) (show(12:Int)- (q:Int)=((m12 q:Nat):Int) by unfold m12;omega)) rfl wn rfl rfl ?_
  refine cp (fun h' hE hL=>Yy _ h' (akQ ps) _ (m12 q) (hsm.ext hE)) ?_
  rw[alI hps hpm hq12]
  generalize qh ps q=EF
  obtain⟨⟨e1,e2⟩,e3⟩:=EF
  refine qm rfl rfl rfl<|oq (bD rfl rfl rfl) rfl wn rfl rfl<|oq (bD rfl rfl rfl) rfl wn rfl rfl<|agb rfl rfl rfl<|agb rfl rfl rfl<|pq<|W.seq<|W.seq<|W.region rfl ?_
  refine qm rfl rfl rfl<|qm rfl rfl rfl ?_
  refine KU (nG rfl rfl rfl) (congrArg Value.bool (show decide ((e1:Int)≠e1)=false by simp)) rfl wn rfl rfl ?_
  refine qm rfl rfl rfl ?_
  refine oq (aN rfl rfl) rfl (ak rfl rfl rfl) rfl rfl ?_
  refine oq (aN rfl rfl) rfl (ak rfl rfl rfl) rfl rfl ?_
  refine KU (nG rfl rfl rfl) (congrArg Value.bool (show decide (e3≠e3)=false by simp)) rfl (ak rfl rfl rfl) rfl rfl ?_
  refine agW (iH rfl rfl rfl) rfl ?_
  refine qm rfl rfl rfl ?_
  refine oq (aN rfl rfl) rfl (ak rfl rfl rfl) rfl rfl ?_
  refine oq (aN rfl rfl) rfl (ak rfl rfl rfl) rfl rfl ?_
  refine KU (nG rfl rfl rfl) (congrArg Value.bool (show decide ((e2:Int)≠e2)=false by simp)) rfl (ak rfl rfl rfl) rfl rfl ?_
  refine agW (iH rfl rfl rfl) rfl ?_
  refine qm rfl rfl rfl ?_
  refine oq (aN rfl rfl) rfl (ak rfl rfl rfl) rfl rfl ?_
  refine oq (aN rfl rfl) rfl (ak rfl rfl rfl) rfl rfl ?_
  refine KU (nG rfl rfl rfl) (congrArg Value.bool (show decide (e3≠e3)=false by simp)) rfl (ak rfl rfl rfl) rfl rfl ?_
  refine agW (iH rfl rfl rfl) rfl ?_
  refine pq ?_
  refine W.bZ ?_
  refine W.skip<|aA<|W.seq<|W.region rfl<|qm rfl rfl rfl<|qm rfl rfl rfl<|qm rfl rfl rfl ?_
  refine c0 (fun h' hE hL=>aah _ h' ps _ q (zs w) _ _ _ (hsl.ext hE) (ak6.ext hE) (hE.1 _ _ hgz)) (fun v A' hv=>?_)
  obtain⟨w5,S5,rfl,hS5,anR⟩:=hv
  refine Ops.sb (F':=S5++[]) (by simpa using anR) ?_
  refine qm rfl rfl rfl<|oq (bD rfl rfl rfl) rfl wn rfl rfl<|oq (bD rfl rfl rfl) rfl wn rfl rfl<|agb rfl rfl rfl<|agb rfl rfl rfl<|pq<|W.seq<|W.region rfl<|qm rfl rfl rfl ?_
  refine qm rfl rfl rfl ?_
  refine KU (acL rfl rfl rfl) (congrArg (Value.int .i64) (show(12:Int)- (q:Int)=((m12 q:Nat):Int) by unfold m12;omega)) rfl wn rfl rfl ?_
  refine qm rfl rfl rfl ?_
  refine c0 (fun h' hE hL=>aah _ h' (akQ ps) _ (m12 q) (zs w) _ _ _ (hsm.ext hE) (ak6.ext hE) (hE.1 _ _ hgz)) (fun v A' hv=>?_)
  obtain⟨w6,S6,hv6,hS6,akw⟩:=hv
  rw[al2 hps hpm hq12]at hv6 hS6
  have amT:∀x∈(Aq ps q (zs w)).1,x<13:=by
   rw[akG hps (by omega)]
   split
   ·intro x hx;cases hx
   ·split
    ·exact alN
    ·intro x hx;cases hx
  have anS:(Aq ps q (zs w)).1.length≤50:=by
   rw[akG hps (by omega)]
   split
   ·simp
   ·split
    ·simp only[akd];omega
    ·simp
  generalize Aq ps q (zs w)=BF at*
  obtain⟨G,e⟩:=BF
  dsimp only at hv6 hS5 hS6 amT anS
  subst hv6
  refine Ops.sb (F':=S6++(S5++[])) (akw.app .refl) ?_
  obtain⟨a5,c5,rfl⟩:=hS5.dA
  obtain⟨a6,c6,rfl⟩:=hS6.dA
  rw[kT]at hS5 hS6⊢
  rw[kT]
  have hGm:(G.map m12).length=G.length:=List.length_map _
  refine qm rfl rfl rfl<|oq (bD rfl rfl rfl) rfl wn rfl rfl<|oq (bD rfl rfl rfl) rfl wn rfl rfl<|agb rfl rfl rfl<|agb rfl rfl rfl<|pq<|W.seq<|W.seq<|W.region rfl ?_
  refine qm rfl rfl rfl<|qm rfl rfl rfl ?_
  refine KU (nG rfl rfl rfl) (congrArg Value.bool (show decide (e≠e)=false by simp)) rfl wn rfl rfl ?_
  refine qm rfl rfl rfl ?_
  refine oq (aN rfl rfl) rfl (ak rfl rfl rfl) rfl rfl ?_
  refine oq (dM rfl rfl) rfl (ak rfl rfl rfl) rfl rfl ?_
  refine oq (aN rfl rfl) rfl (ak rfl rfl rfl) rfl rfl ?_
  refine oq (dM rfl rfl) rfl (ak rfl rfl rfl) rfl rfl ?_
  refine KU (nG rfl rfl rfl) (congrArg Value.bool (decide_eq_false (by omega))) rfl (ak rfl rfl rfl) rfl rfl ?_
  refine agW (iH rfl rfl rfl) rfl ?_
  refine pq ?_
  refine W.bZ ?_
  refine W.skip<|aA ?_
  refine JU hS6 (fun hz6 anT amw _=>?_)
  refine JU hS5 (fun hz5 amU anU _=>?_)
  replace amw:=amw.ext amU
  replace hgz:=amU.1 _ _ (anT.1 _ _ hgz)
  refine W.seq<|W.seq<|W.region rfl<|agb rfl rfl rfl<|pq<|W.block ?_
  refine W.loop (σ:=Nat) (fun i=>i≤G.length) (fun i=>[(19,I i),(11,.slice a6 (G.map m12).length c6),(9,.slice a5 G.length c5)]) (fun _=>[]) (fun i=>G.length-i) 0 (Nat.zero_le _) ⟨rfl,rfl,rfl,trivial⟩ TW ?_
  rintro i hi
  refine W.seq<|W.seq<|W.region rfl<|qm rfl rfl rfl<|qm rfl rfl rfl ?_
  refine agW (dM rfl rfl) rfl ?_
  refine agW (fO rfl rfl rfl) rfl ?_
  refine pq ?_
  refine W.bC rfl (fun anV=>?_) (fun anV=>?_)
  ·have hil:i<G.length:=by omega
   obtain⟨x,hx,-⟩:=has hil
   have alS:=amT x (List.mem_of_getElem? hx)
   have hmm:m12 x≤12:=alc
   obtain⟨b1,o1',c1,E1,f1,hv1,hb1,-,-,hz1⟩:=anU.at (show(zs G)[i]? =some (x:Int) by rw[zs,List.getElem?_map,hx];rfl)
   cases hv1
   have hc1:c1[o1'+i*1]? =some (I x):=hz1 0 (by decide)
   obtain⟨b2,o2',c2,E2,f2,hv2,hb2,-,-,hz2⟩:=amw.at (show(zs (G.map m12))[i]? =some (m12 x:Int) by rw[zs,List.getElem?_map,List.getElem?_map,hx];rfl)
   cases hv2
   have hc2:c2[o2'+i*1]? =some (I (m12 x)):=hz2 0 (by decide)
   have hlt:i<(G.map m12).length:=by omega
   refine W.skip<|aA<|W.seq<|W.block<|W.seq ?_
   refine W.rE (n:=10) rfl ?_
   refine xq 0 (aN rfl rfl) rfl ?_
   refine xq 1 (aN rfl rfl) rfl ?_
   first | refine xq 2 (G_ rfl rfl rfl) rfl ?_ | refine xq 2 (o_ rfl rfl rfl) rfl ?_
   refine xq 3 (iQ rfl rfl) rfl ?_
   refine xq 4 (aN rfl rfl) rfl ?_
   refine xq 5 (aN rfl rfl) rfl ?_
   first | refine xq 6 (G_ rfl rfl rfl) rfl ?_ | refine xq 6 (o_ rfl rfl rfl) rfl ?_
   refine xq 7 (iQ rfl rfl) rfl ?_
   first | refine xq 8 (acL rfl rfl rfl) rfl ?_ | refine xq 8 (M_ rfl rfl rfl) rfl ?_
   refine aqe (i:=9) (nG rfl rfl rfl) (congrArg Value.bool (show decide ((x:Int)≠12- (m12 x:Int))=false from decide_eq_false (by unfold m12;omega))) rfl an rfl rfl ?_
   refine az ?_
   refine aA ?_
   refine W.bZ ?_
   refine W.skip<|dI<|aA<|W.region rfl<|qm rfl rfl rfl ?_
   refine ag1 rfl ?_
   refine agb rfl rfl rfl<|pq ?_
   exact⟨rfl,i+1,hil,by omega,⟨rfl,rfl,rfl,trivial⟩,.refl⟩
  ·refine W.exit<|bP<|bP<|gG<|aA<|W.seq<|W.region rfl ?_
   refine cp (fun h' hE hL=>VW _ h' hS hmb _ _ (hE.1 _ _ hgz)) ?_
   refine agb rfl rfl rfl<|pq<|W.ret ?_
   exact lvq rfl
end Go.aS

/- SyrupMirror's card. Conditions: as the card says; over the given program. -/
namespace Go.Proofs.YtkkdgffaohidnaaGreatDoor
open Go Go.aS
set_option maxRecDepth 100000
set_option maxHeartbeats 4000000
theorem alh:joinedFacts prog aki akl Rows.syrupMirrorSpec Rows.syrupMirrorRow=true:=by
 unfold joinedFacts
 repeat' with_reducible refine Bool.and_eq_true_iff.2 ⟨?_,?_⟩
 all_goals first
  | with_reducible exact aci
  | (with_reducible refine makeT ?_;kernel_rfl)
  | (with_reducible refine aeb ?_;kernel_rfl)
  | (as_aux_lemma=>kernel_rfl)
theorem ak4:prog.funcNamed Rows.syrupMirrorRow.func=some aki:=by kernel_rfl
theorem alm:prog.mainIs=some (true, "dbc29bbb9727fbebaf7429f7266f9d82b5a02ec0969210b724e1ed2dac66cc8d".toList):=ad9
theorem alr:true=Rows.syrupMirrorRow.goesBy prog:=by kernel_rfl
theorem ali:true=prog.looks []:=by kernel_rfl
theorem alv:Rows.SyrupMirrorSaid:=
 OpenClaim.holds_of_wide_leaving_time aki akl rfl rfl rfl rfl rfl rfl rfl ⟨rfl,rfl,rfl,rfl,rfl⟩ rfl rfl rfl rfl rfl ak4 ak5 alh
  (of_decide_eq_true (by kernel_rfl)) (by unfold Func.isWrapper;first | (rw[if_pos (by decide+kernel)];kernel_rfl) | (rw[if_neg (by decide+kernel)];exact⟨rfl,rfl⟩))
  (
   fun os started H enc _ F=>ad7 (s:=Rows.syrupMirrorSpec) os started H enc ak5 (by kernel_rfl) (by kernel_rfl) (by kernel_rfl) (by kernel_rfl) (by kernel_rfl) rfl (fun _=>rfl)
   (OB (enc:=enc) (C:=Tryz.checked) (os:=os) (X:=fun w _=>laidMetH prog J9 w) (laidWorld os) #[.slice none 0 0] 8 rfl (by kernel_rfl) (by kernel_rfl) (by kernel_rfl) (by kernel_rfl) (by kernel_rfl) (laidWorld_met os _))
   (fun main hS hmb h nums lv Eg zg hl hg z0=>alu main hS hmb h nums lv Eg zg hl hg z0) F)

theorem SyrupMirror_card:Rows.SyrupMirrorCardSaid:=
 VZ .later [] [.handle] true (true, "dbc29bbb9727fbebaf7429f7266f9d82b5a02ec0969210b724e1ed2dac66cc8d") true
  alv (fun _ h=>by cases h) (by kernel_rfl) (fun _ h=>by cases h) syrupMirror_row_tie rfl ⟨rfl,rfl⟩ alm rfl
  (
   fun f fn hf hfn=>by
   obtain rfl:f=aki:=(Option.some.inj (ak4.symm.trans hf)).symm
   obtain rfl:fn=akl:=(Option.some.inj (ak5.symm.trans hfn)).symm
   exact⟨ali,fun j t ht=>by
    rw[show(akl).params= #[nS] by kernel_rfl]at ht
    have h3:t=nS:=by
     rcases j with _ | j
     ·simpa using ht.symm
     ·simp at ht
    subst h3
    exact(show prog.wantsStandIn nS=false by kernel_rfl)⟩)
  alr
#print axioms SyrupMirror_card
end Go.Proofs.YtkkdgffaohidnaaGreatDoor
