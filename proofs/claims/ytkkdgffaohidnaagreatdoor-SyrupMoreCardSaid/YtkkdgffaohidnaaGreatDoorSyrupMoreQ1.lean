/- What is reached in so many steps, as the laws find it. Conditions: none; no program in sight. (And 25 texts more.) -/
import Derived.Test.YtkkdgffaohidnaaGreatDoorR10
import Derived.Test.YtkkdgffaohidnaaGreatDoorR13
import Derived.Test.YtkkdgffaohidnaaGreatDoorR11
set_option linter.unusedVariables false
set_option linter.unusedSimpArgs false
set_option linter.unusedSectionVars false

/- What is reached in so many steps, as the laws find it. Conditions: none; no program in sight. -/
namespace Go.aS
set_option linter.unusedVariables false
end Go.aS

/- Operations that come up in any order and only add to what is owned. Conditions: none; over any program. -/
namespace Go.aS
abbrev Spc:=Nat×Nat×(Value→ah→Prop)
def waits(ops:Array Oper):Nat→Nat→Nat→Bool
 | 0,_,_=>false
 | n+1,k,b=>match ops[k]? with | some o=>o.after.any fun e=>iG e&&(Nat.beq e.on b|| waits ops n e.on b) | none=>false
structure Y4(ops:Array Oper)(listed:Nat)(B:List Nat):Prop where
 cl:Closed ops listed
 low:∀k o,ops[k]? =some o→∀e∈o.after,iG e=true→e.on<k
 or:∀k,k<ops.size→listed.testBit k=false→k∈B∨∀b∈B,waits ops 6 k b=true
 un:∀b∈B,b<ops.size∧listed.testBit b=false
 nd:B.Nodup

theorem Y4.some{ops:Array Oper}{listed:Nat}{B:List Nat}(h:Y4 ops listed B){b:Nat}(hb:b∈B):qx ops listed≠[]:=by
 have key:∀(n k:Nat),k<n→k<ops.size→listed.testBit k=false→∃i,Fq ops listed i=true:=by
  intro n
  induction n with
  | zero=>intro k hk;omega
  | succ n ih=>
   intro k hk hlt hl
   by_cases hr:Fq ops listed k=true
   ·exact⟨k,hr⟩
   ·simp only[Fq,Array.getElem?_eq_getElem hlt,hl,Bool.not_false,Bool.true_and,Array.all_eq_true_iff_forall_mem,Bool.or_eq_true,Bool.not_eq_true']at hr
    have:∃e∈(ops[k]).after,iG e=true∧listed.testBit e.on=false:=by
     refine Classical.byContradiction fun hn=>hr fun e he=>?_
     cases hbe:iG e with
     | false=>exact .inl rfl
     | true=>
      cases ht:listed.testBit e.on with
      | true=>exact .inr rfl
      | false=>exact absurd ⟨e,he,hbe,ht⟩ hn
    obtain⟨e,he,h1,h2⟩:=this
    have:=h.low k _ (Array.getElem?_eq_getElem hlt) e he h1
    exact ih e.on (by omega) (by omega) h2
 obtain⟨i,hi⟩:=key (b+1) b (by omega) (h.un b hb).1 (h.un b hb).2
 intro e
 have:=o8.2 hi
 rw[e]at this
 cases this

theorem Y4.step{ops:Array Oper}{listed j:Nat}{B1 B2:List Nat}(h:Y4 ops listed (B1++j::B2))(hj:Fq ops listed j=true):Y4 ops (listed||| 2 ^ j) (B1++B2):=by
 have hnd:j∉B1++B2:=by
  have:=(List.perm_middle (a:=j) (l₁:=B1) (l₂:=B2)).nodup_iff.1 h.nd
  exact(List.nodup_cons.1 this).1
 refine⟨h.cl.step hj,h.low,fun k hk hl=>?_,fun b hb=>?_,?_⟩
 ·rw[testBit_or,Bool.or_eq_false_iff]at hl
  have hne:j≠k:=by simpa using hl.2
  rcases h.or k hk hl.1 with h' | h'
  ·left
   rcases List.mem_append.1 h' with h' | h'
   ·exact List.mem_append_left _ h'
   ·rcases List.mem_cons.1 h' with h' | h'
    ·exact absurd h'.symm hne
    ·exact List.mem_append_right _ h'
  ·right
   intro b hb
   refine h' b ?_
   rcases List.mem_append.1 hb with hb | hb
   ·exact List.mem_append_left _ hb
   ·exact List.mem_append_right _ (List.mem_cons_of_mem _ hb)
 ·have hb':b∈B1++j::B2:=by
   rcases List.mem_append.1 hb with hb | hb
   ·exact List.mem_append_left _ hb
   ·exact List.mem_append_right _ (List.mem_cons_of_mem _ hb)
  refine⟨(h.un b hb').1,?_⟩
  rw[testBit_or,(h.un b hb').2,Bool.false_or,decide_eq_false_iff_not]
  rintro rfl
  exact hnd hb
 ·have:=(List.perm_middle (a:=j) (l₁:=B1) (l₂:=B2)).nodup_iff.1 h.nd
  exact(List.nodup_cons.1 this).2

def Adds(x:Cx)(ops:Array Oper)(ε:Ev)(s:Spc):Prop:=
 ∃o,ops[s.1]? =some o∧o.dst=some s.2.1∧d_ o.dst x.n=true∧(∀c,o.op≠ .defer c)∧o.guard=none∧∀e,Cons ε e→∀F,Dx x o e F fun v F'=>∃A Lp,Lp.Perm F'∧s.2.2 v A∧Lp=A++F

theorem Cons.back{ε:Ev}{d:Nat}{v:Value}{e:Operand→Value}(h:Cons (upd ε (some d) v) e)(hd:ε d=none):Cons ε e:=fun y u hy=>h y u (by
 cases y with
 | tmp t=>
  simp only[UK,upd]at hy⊢
  cases hb:Nat.beq t d with
  | true=>rw[Nat.eq_of_beq_eq_true hb,hd]at hy;cases hy
  | false=>exact hy
 | _=>exact hy)

section rules
variable{x:Cx}{Q:Post}{ρ:Env}{ds:List Deferred}{F:ah}{ops:Array Oper}{L:ah}{fuel listed:Nat}
theorem Adds.of{i d:Nat}{P:Value→ah→Prop}{op:Op}{ty:TypeId}{pos:String}{bK:Array Edge}(ho:cO ops.toList i=some ⟨some d,op,ty,pos,bK,none⟩)(hd:Nat.blt d x.n=true)(hn:cu op=true)(H:∀F,Ef x ρ ⟨some d,op,ty,pos,bK,none⟩ F fun v F'=>∃A,P v A∧F'=A++F):Adds x ops (look ρ) (i,d,P):=
 ⟨_,aU ho,rfl,hd,gI hn,rfl,fun e he F=>(H F e fun y v hy=>he y v (by rw[DC];exact hy)).mono fun v F' ⟨Lp,p,A,hv,e⟩=>⟨A,Lp,p,hv,e⟩⟩
theorem Adds.call{i d f:Nat}{P:Value→ah→Prop}{args:List Operand}{ts:Array TypeId}{vs:List Value}{ty:TypeId}{pos:String}{bK:Array Edge}(H:∀h',Ext x.h h'→dV x.P x.main f vs.toArray h' [] P)(ho:cO ops.toList i=some ⟨some d,.call ⟨.value (.func f),args.toArray,ts⟩,ty,pos,bK,none⟩:=by rfl)[FB x.P f](hv:evs ρ args=some vs:=by rfl)(hd:Nat.blt d x.n=true:=by rfl):Adds x ops (look ρ) (i,d,P):=
 .of ho hd rfl fun F=>lQ rfl hv (fun h' hE _=>H h' hE) fun v A' hv=>⟨A',hv,rfl⟩
end rules
end Go.aS
namespace Go.aS
section
variable{α:Type}{row:α→List Value}{w:Nat}[rw':Rw row w]
section
variable{x:Cx}{ρ:Env}{F:ah}{o:Oper}{R:Value→ah→Prop}
end
end
section
variable{x:Cx}{S:ah→Prop}{ρ:Env}{o:Oper}
end
end Go.aS
namespace Go.aS
section
variable{x:Cx}{Q:Post}{ρ:Env}{ds:List Deferred}{ops:Array Oper}{G:ah}{y₁ y₂ y₃ y₄ agp agq:Nat×Obj}{id n:Nat}
end
end Go.aS
namespace Go.aS
end Go.aS

/- Slices of slices; makeSlice. Conditions: none; over any program. -/
namespace Go.aS
structure Sv where
  a:Option Addr
  n:Nat
  cap:Nat
abbrev Sv.val(s:Sv):Value:=.slice s.a s.n s.cap
section
variable{α:Type}{row:α→List Value}{w:Nat}[rw':Rw row w]{E:TypeId}
inductive UG(E:TypeId)(row:α→List Value)[Rw row w]:List Sv→List (List α)→ah→Prop
  | nil:UG E row [] [] []
  | cons {s:Sv} {l:List α} {A B:ah} {vs:List Sv} {ls:List (List α)}:Os E row s.val l A→UG E row vs ls B→UG E row (s::vs) (l::ls) (A++B)
theorem UG.len{vs:List Sv}{ls:List (List α)}{A:ah}(h:UG E row vs ls A):vs.length=ls.length:=by
  induction h with
  | nil=>rfl
  | cons _ _ ih=>simp[ih]
theorem UG.shut{vs:List Sv}{ls:List (List α)}{A:ah}(h:UG E row vs ls A):Shut A:=by
  induction h with
  | nil=>exact .nil
  | cons h _ ih=>exact h.shut.app ih
theorem UG.sl{vs:List Sv}{ls:List (List α)}{A:ah}{h':Hp}(h:UG E row vs ls A)(hL:∀b o,(b,o)∈A→h' b=some o):∀{k:Nat} {s:Sv} {l:List α},vs[k]? =some s→ls[k]? =some l→Sl h' row s.val l:=by
  induction h with
  | nil=>intro k s l hs;simp at hs
  | cons h1 _ ih=>
    intro k s l hs hl
    rcases k with _ | k
    · simp at hs hl;subst hs hl
      exact h1.sl fun b o hb=>hL b o (List.mem_append_left _ hb)
    · simp at hs hl
      exact ih (fun b o hb=>hL b o (List.mem_append_right _ hb)) hs hl
end
/-! makeSlice -/
section
variable{x:Cx}{ρ:Env}{F:ah}{o:Oper}{R:Value→ah→Prop}
end
end Go.aS

/- Sets of qualities, as the laws keep them. Conditions: none; over the given program. -/
namespace Go.aS
set_option maxRecDepth 100000
set_option maxHeartbeats 4000000
abbrev V9(β:Nat):Value:=.slice (some ⟨β,0,none⟩) 13 13
abbrev bsO(f:Nat→Bool):Obj:=.cells (bA f) RS (0,0)
end Go.aS

/- SyrupLongest. Conditions: none; over the given program. -/
namespace Go.aS
set_option maxRecDepth 100000
set_option maxHeartbeats 4000000
end Go.aS

/- What goes round for ever comes to a ring. Conditions: none; no program in sight. -/
namespace Go.aS
set_option linter.unusedVariables false
end Go.aS

/- All ways of so many steps; the first of them. Conditions: none; no program in sight. -/
namespace Go.aS
set_option linter.unusedVariables false
end Go.aS

/- All lists of so many numbers, as a program makes them; all ascending ones. Conditions: none; no program in sight. -/
namespace Go.aS
set_option linter.unusedVariables false
end Go.aS

/- All lists of so many numbers. Conditions: none; over the given program. -/
namespace Go.aS
set_option maxRecDepth 100000
set_option maxHeartbeats 4000000
end Go.aS

/- Ways, as the laws make them. Conditions: none; over the given program. -/
namespace Go.aS
set_option maxRecDepth 100000
set_option maxHeartbeats 4000000
end Go.aS

/- Comparing truth values. Conditions: none; over any program. -/
namespace Go.aS
section
variable{x:Cx}{ρ:Env}{S:ah→Prop}{o:Oper}{v:Value}
end
end Go.aS

/- Shut blocks are put by. Conditions: none; over any program. -/
namespace Go.aS
theorem W.cut{x:Cx}{c c2:Code}{Q:Post}{ρ:Env}{ds:List Deferred}{F:ah}(L:Env)(G:ah)(H:W x c (fun e ρ' ds' F'=>e= .normal∧ds'=ds∧Sub L ρ'∧Sb G F') ρ ds F)(K:W x c2 Q L ds G):W x c (thn (fun ρ' ds' F'=>W x c2 Q ρ' ds' F') Q) ρ ds F:=
 W.mono H fun e ρ' ds' F' h=>by
  obtain⟨he,hd,hs,hb⟩:=h
  subst he hd
  exact aA (W.env hs (W.sb hb K))
end Go.aS

/- SyrupRing. Conditions: none; over the given program. -/
namespace Go.aS
set_option maxRecDepth 100000
set_option maxHeartbeats 4000000
end Go.aS

/- From where syrups go round for ever: the list. Conditions: none; over the given program. -/
namespace Go.aS
set_option maxRecDepth 100000
set_option maxHeartbeats 4000000
def qsL(f:Nat→Bool):List Nat:=(List.range 13).filter f
theorem afm{f:Nat→Bool}{q:Nat}:q∈qsL f↔q<13∧f q=true:=by simp[qsL]
theorem afn{f:Nat→Bool}:(qsL f).length≤13:=Nat.le_trans (List.length_filter_le ..) (by simp)
theorem ae1(main:Side)(h:Hp)(f:Nat→Bool):dV prog main aaV #[.agg (bA f)] h [] (fun v A=>∃S,Os dL fH v (zs (qsL f)) S∧Sb S A):=by
 refine dV.aG aa2 rfl (by show 1≤18;decide) [(0,.agg (bA f))] ⟨rfl,trivial⟩ ?_
 have hsz:(bA f).size=13:=nX
 have hon:ones (bA f).toList=true:=Un
 refine W.seq<|W.region rfl ?_
 refine Ops.box (cs:=bA f) (fun β1=>?_)
 refine agb rfl rfl rfl<|pq<|W.seq<|W.region rfl<|agb rfl rfl rfl<|pq<|W.seq<|W.seq ?_
 refine W.region rfl ?_
 refine ag2 rfl ?_
 refine qm rfl rfl rfl<|pq<|W.block ?_
 refine W.Js (fun(k:Nat) (v:Value) (S:ah)=>k≤13∧Os dL fH v (zs ((List.range k).filter f)) S) (fun k v S=>[(7,I k),(6,.agg (bA f)),(3,v),(1,.pointer (some ⟨β1,0,none⟩))]) (fun k v S=>S++[(β1,.cells (bA f) aP (0,0))]) (fun k _ _=>13-k) 0 (.slice none 0 0) [] ⟨Nat.zero_le _,.nil .nil⟩ ⟨rfl,rfl,rfl,rfl,trivial⟩ .refl ?_
 rintro k v S ⟨hk,hS⟩
 refine W.seq<|W.region rfl ?_
 refine agW (fO rfl rfl rfl) rfl ?_
 refine pq<|W.seq ?_
 refine W.bC rfl (fun c8=>?_) (fun c8=>?_)
 ·have Vq:k<13:=by omega
  have hlen:(zs ((List.range k).filter f)).length≤13:=by rw[kT];exact Nat.le_trans (List.length_filter_le ..) (by simp;omega)
  refine W.skip<|aA<|W.seq<|W.block<|W.seq<|W.region rfl<|qm rfl rfl rfl ?_
  refine agW (Ti (n:=k) (v:=.bool (f k)) rfl rfl rfl (by omega) (by omega) (by rw[Int.toNat_natCast,Nat.mul_one];exact L9 Vq)) rfl ?_
  refine agb rfl rfl rfl<|agb rfl rfl rfl<|pq<|W.seq<|W.region rfl<|qm rfl rfl rfl<|pq ?_
  refine W.cond rfl (fun c11=>?_) (fun c11=>?_)
  ·refine W.region rfl<|qm rfl rfl rfl<|qm rfl rfl rfl ?_
   refine Ops.NK (cs:= #[I k]) (fun aht=>?_) rfl
   refine oe rfl wn rfl rfl (iW (row:=fH) (l':=[(k:Int)]) rfl rfl rfl hS (.tail .head) (fun h2 _ hl=>Sl.mk (hl aht _ (.head _)) rfl (Part.all [I k])) (by simp;omega) (by decide) rfl (fun v' S' hS'=>?_))
   refine agb rfl rfl rfl<|Ops.nil<|dI<|aA<|W.region rfl ?_
   refine ag1 rfl ?_
   refine qm rfl rfl rfl<|pq ?_
   exact⟨rfl,k+1,v',S',⟨by omega,by rw[List.range_succ,List.filter_append,X3];simpa[zs,c11]using hS'⟩,by omega,⟨rfl,rfl,rfl,rfl,trivial⟩,.skip rfl .refl⟩
  ·refine W.skip<|dI<|aA<|W.region rfl ?_
   refine ag1 rfl ?_
   refine qm rfl rfl rfl<|pq ?_
   exact⟨rfl,k+1,v,S,⟨by omega,by rw[List.range_succ,List.filter_append,X3];simpa[zs,c11]using hS⟩,by omega,⟨rfl,rfl,rfl,rfl,trivial⟩,.refl⟩
 ·refine W.exit<|bP<|bP<|gG<|aA<|W.seq<|W.region rfl<|qm rfl rfl rfl<|agb rfl rfl rfl<|Ops.nil ?_
  refine aA<|W.ret ?_
  obtain rfl:k=13:=by omega
  exact mg (vs:=[v]) ⟨S,hS,.right .refl (.cons rfl .nil)⟩
def aef(ps:List Pn):List Nat×Int:=if nV ps≠0 then([],nV ps)else(qsL fun k=>dD (dO ps 0) 13 k,0)
theorem afo(main:Side)(h:Hp)(ps:List Pn)(vp:Value)(hf:Sl h Pn.row vp ps):dV prog main abZ #[vp] h [] (fun v A=>∃w S,v= .tuple #[w,I (aef ps).2]∧Os dL fH w (zs (aef ps).1) S∧Sb S A):=by
 obtain⟨a,cap,rfl⟩:=hf.dA
 refine dV.aG adO rfl (by show 1≤17;decide) [(0,.slice a ps.length cap)] ⟨rfl,trivial⟩ ?_
 have hbe:kU ps []=nV ps:=by unfold kU;split <;>simp_all
 refine W.seq<|W.region rfl<|agb rfl rfl rfl<|agb rfl rfl rfl<|pq<|W.seq<|W.region rfl<|qm rfl rfl rfl ?_
 refine cp (fun h' hE hL=>Am _ h' ps (.slice a ps.length cap) [] _ (hf.ext hE) .nil (by simp)) ?_
 refine qm rfl rfl rfl<|oq (bD rfl rfl rfl) rfl wn rfl rfl<|oq (bD rfl rfl rfl) rfl wn rfl rfl ?_
 have hcs:∃cs:Array Value,(if kU ps []=0 then xJ (.slice a ps.length cap) 0 else LZ)= .agg cs∧cs.size=2∧ones cs.toList=true:=by
  split
  ·exact⟨_,rfl,rfl,rfl⟩
  ·exact⟨_,rfl,rfl,rfl⟩
 obtain⟨cs,hcs,hcs2,hcs1⟩:=hcs
 rw[hcs,hbe]
 refine Ops.new (fun wC=>?_)
 refine Ops.jP (n:=2) (vs:=cs) ?_ (hy:=by rfl) (hn:=hcs2) (h1:=hcs1)
 refine agb rfl rfl rfl<|pq<|W.seq<|W.seq<|W.region rfl<|qm rfl rfl rfl ?_
 refine agW (nG rfl rfl rfl) rfl ?_
 refine pq ?_
 refine W.bC rfl (fun c12=>?_) (fun c12=>?_)
 ·refine W.seq<|W.region rfl<|qm rfl rfl rfl<|agb rfl rfl rfl<|agb rfl rfl rfl<|pq<|W.ret<|aY ?_
  refine mg (vs:=[_,_]) ?_
  rw[aef,if_pos (by simpa using c12)]
  exact⟨_,[],rfl,.nil .nil,.nil (by repeat(first | exact Shut.nil | refine Shut.cons rfl ?_))⟩
 ·have h0:nV ps=0:=by simpa using c12
  rw[if_pos (by rw[hbe];exact h0)]at hcs
  cases hcs
  refine W.skip<|aA<|W.seq<|W.region rfl ?_
  refine ag2 rfl ?_
  refine cp (fun h' hE hL=>Uo _ h' ps _ 0 (hf.ext hE) (iP.yB h0) (by decide)) ?_
  refine c0 (fun h' hE hL=>ae1 _ h' _) (fun v A' hv=>?_)
  obtain⟨S,hS,hsb⟩:=hv
  refine agb rfl rfl rfl<|agb rfl rfl rfl<|pq<|W.ret ?_
  refine mg (vs:=[_,_]) ?_
  rw[aef,if_neg (by simpa using h0)]
  exact⟨_,S,rfl,hS,.right hsb (.cons rfl .nil)⟩
theorem ae4{ps:List Pn}(h:nV ps=0):aef ps=(qsL fun k=>dD (dO ps 0) 13 k,0):=by rw[aef,if_neg (by simpa using h)]
end Go.aS

/- The shortest way to treacle; what treacle comes of a syrup. Conditions: none; over the given program. -/
namespace Go.aS
set_option maxRecDepth 100000
set_option maxHeartbeats 4000000
end Go.aS

/- Treacle, as the document has it. Conditions: none; over the given program. -/
namespace Go.aS
set_option maxRecDepth 100000
set_option maxHeartbeats 4000000
end Go.aS

/- SyrupShortest. Conditions: none; over the given program. -/
namespace Go.aS
set_option maxRecDepth 100000
set_option maxHeartbeats 4000000
end Go.aS

/- Pans that are forced. Conditions: none; over the given program. -/
namespace Go.aS
set_option maxRecDepth 100000
set_option maxHeartbeats 4000000
end Go.aS

/- Pans that are shut; where one comes without them. Conditions: none; no program in sight. -/
namespace Go.aS
set_option linter.unusedVariables false
def stp(g:yV)(q o:Nat):Prop:=∃p,(p,o)∈g q
theorem ai2{ps:List Pn}(h4:ps.length≤4){c q o:Nat}:stp (dO ps c) q o↔∃i x,ps[i]? =some x∧c.testBit i=false∧x.takes q=true∧o=(x.out q).toNat:=by
 unfold stp
 simp only[Um,Ak]
 constructor
 ·rintro⟨i,⟨h1,h2,h3⟩,rfl⟩
  unfold P9 at h2
  split at h2
  ·rename_i x hx
   exact⟨i,x,hx,h3,h2,by rw[gy,hx]⟩
  ·cases h2
 ·rintro⟨i,x,hx,h3,h2,rfl⟩
  refine⟨i,⟨?_,?_,h3⟩,by rw[gy,hx]⟩
  ·obtain⟨h,-⟩:=List.getElem?_eq_some_iff.1 hx;omega
  ·unfold P9;rw[hx];exact h2
end Go.aS

/- Pans shut, as the document has it. Conditions: none; over the given program. -/
namespace Go.aS
set_option maxRecDepth 100000
set_option maxHeartbeats 4000000
end Go.aS

/- SyrupForced. Conditions: none; over the given program. -/
namespace Go.aS
set_option maxRecDepth 100000
set_option maxHeartbeats 4000000
end Go.aS

/- All ascending lists of so many numbers, as a program makes them. Conditions: none; no program in sight. -/
namespace Go.aS
set_option linter.unusedVariables false
set_option maxRecDepth 100000
end Go.aS

/- All ascending lists of so many numbers. Conditions: none; over the given program. -/
namespace Go.aS
set_option maxRecDepth 100000
set_option maxHeartbeats 4000000
theorem UG.os{α:Type}{row:α→List Value}{w:Nat}[Rw row w]{E:TypeId}{vs:List Sv}{ls:List (List α)}{A:ah}(h:UG E row vs ls A):∀{k:Nat} {s:Sv} {l:List α},vs[k]? =some s→ls[k]? =some l→∃B,Os E row s.val l B∧∀p∈B,p∈A:=by
 induction h with
 | nil=>intro k s l hs;simp at hs
 | cons h1 _ ih=>
  intro k s l hs hl
  rcases k with _ | k
  ·simp at hs hl;subst hs hl
   exact⟨_,h1,fun p hp=>List.mem_append_left _ hp⟩
  ·simp at hs hl
   obtain⟨B,h2,h3⟩:=ih hs hl
   exact⟨B,h2,fun p hp=>List.mem_append_right _ (h3 p hp)⟩
end Go.aS

/- SyrupClosed. Conditions: none; over the given program. -/
namespace Go.aS
set_option maxRecDepth 100000
set_option maxHeartbeats 4000000
theorem ajR{ps:List Pn}(h4:ps.length≤4):CB ps (2 ^ ps.length-1)=true:=by
 refine List.all_eq_true.2 fun k _=>?_
 rw[Bool.not_eq_true',←Bool.not_eq_true,JJ]
 rintro⟨v,e,h1,h2⟩
 rcases v with _ | ⟨p,r⟩
 ·cases h1
 ·obtain⟨o,h3,-⟩:=h2
  obtain⟨i,x,hx,hb,-⟩:=(ai2 h4).1 ⟨p,h3⟩
  obtain⟨hi,-⟩:=List.getElem?_eq_some_iff.1 hx
  rw[Nat.testBit_two_pow_sub_one]at hb
  simp at hb;omega
theorem ajA{ps:List Pn}(h4:ps.length≤4):∃s,s<16∧CB ps s=true∧Oo ps=JL s∧ae3.find? (fun s=>decide (s≤2 ^ ps.length-1)&&CB ps s)=some s:=by
 have hall:2 ^ ps.length-1<16:=ab2 h4
 have:=aia (l:=(List.range (2 ^ ps.length-1)).filter (CB ps)) hall (ajR h4) (fun s=>by rw[List.mem_filter,List.mem_range])
 refine⟨_,?_,?_,rfl,this⟩
 ·have h1:=List.find?_some this
  simp only[Bool.and_eq_true,decide_eq_true_eq]at h1
  omega
 ·have h1:=List.find?_some this
  simp only[Bool.and_eq_true]at h1
  exact h1.2
end Go.aS

/- SyrupMore. Conditions: none; over the given program. -/
namespace Go.aS
set_option maxRecDepth 100000
set_option maxHeartbeats 4000000
theorem ajX{g g':yV}(h:∀q o,stp g q o→stp g' q o):∀{n q e:Nat},(∃v:List Nat,v.length=n∧qJ g q v e)→∃v:List Nat,v.length=n∧qJ g' q v e
 | 0,q,e,⟨v,h1,h2⟩=>by
  obtain rfl:=List.length_eq_zero_iff.1 h1
  exact⟨[],rfl,h2⟩
 | n+1,q,e,⟨v,h1,h2⟩=>by
  rcases v with _ | ⟨p,r⟩
  ·cases h1
  ·obtain⟨o,h3,h4⟩:=h2
   obtain⟨p',h5⟩:=h q o ⟨p,h3⟩
   obtain⟨r',h6,h7⟩:=ajX h (n:=n) ⟨r,by simpa using h1,h4⟩
   exact⟨p'::r',by simp[h6],o,h5,h7⟩
theorem aj0{g g':yV}(h:∀q o,stp g q o→stp g' q o){n q:Nat}(hw:dD g n q=true):dD g' n q=true:=by
 obtain⟨v,e,h1,h2⟩:=JJ.1 hw
 obtain⟨v',h3,h4⟩:=ajX h ⟨v,h1,h2⟩
 exact JJ.2 ⟨v',e,h3,h4⟩
theorem aj1{ps:List Pn}{p:Pn}(h3:ps.length≤3){c c':Nat}(hc:∀i,i<ps.length→c.testBit i=false→c'.testBit i=false)(q o:Nat)(h:stp (dO ps c) q o):stp (dO (ps++[p]) c') q o:=by
 obtain⟨i,x,h1,h2,h4⟩:=(ai2 (by omega)).1 h
 have hi:i<ps.length:=(List.getElem?_eq_some_iff.1 h1).1
 exact(ai2 (by simp;omega)).2 ⟨i,x,by rw[List.getElem?_append_left hi];exact h1,hc i hi h2,h4⟩
theorem aku{f g:Nat→Bool}(h:∀k,f k=true→g k=true):(qsL f).length≤(qsL g).length:=by
 rw[qsL,qsL,←List.countP_eq_length_filter,←List.countP_eq_length_filter]
 exact List.countP_mono_left fun k _=>h k
theorem aj_:((List.range 16).all fun s=>(List.range 16).all fun t=>decide (tu s≤tu t→(JL s).length≤(JL t).length))=true:=by decide+kernel
theorem akb:((List.range 4).all fun n=>(List.range 16).all fun s=>decide ((JL (s&&&(2 ^ n-1))).length≤(JL s).length)&&decide (s&&&(2 ^ n-1)≤2 ^ n-1))=true:=by decide+kernel
theorem aj2{ps:List Pn}{p:Pn}(h3:ps.length≤3):(Oo ps).length≤(Oo (ps++[p])).length:=by
 have h4':(ps++[p]).length≤4:=by simp;omega
 obtain⟨s',alQ,hsG,hsC,-⟩:=ajA h4'
 rw[hsC]
 have ha:=List.all_eq_true.1 (List.all_eq_true.1 akb ps.length (List.mem_range.2 (by omega))) s' (List.mem_range.2 alQ)
 simp only[Bool.and_eq_true,decide_eq_true_eq]at ha
 refine Nat.le_trans ?_ ha.1
 have hall:2 ^ ps.length-1<16:=ab2 (by omega)
 have hG:CB ps (s'&&&(2 ^ ps.length-1))=true:=by
  refine List.all_eq_true.2 fun k hk=>?_
  rw[Bool.not_eq_true',←Bool.not_eq_true]
  intro hw
  have:=aj0 (aj1 (p:=p) (c':=s') h3 fun i hi hb=>by
   rw[Nat.testBit_and,Nat.testBit_two_pow_sub_one]at hb
   simpa[hi]using hb) hw
  have h9:=List.all_eq_true.1 hsG k hk
  rw[this]at h9;cases h9
 have hb:=(xI (l:=(List.range (2 ^ ps.length-1)).filter (CB ps)) (all:=2 ^ ps.length-1)).2 (s'&&&(2 ^ ps.length-1)) (by
  rcases Nat.lt_or_ge (s'&&&(2 ^ ps.length-1)) (2 ^ ps.length-1)with h | h
  ·exact .tail _ (List.mem_filter.2 ⟨List.mem_range.2 h,hG⟩)
  ·rw[show s'&&&(2 ^ ps.length-1)=2 ^ ps.length-1 by omega];exact .head _)
 obtain⟨s,ame,-,amf,-⟩:=ajA (ps:=ps) (by omega)
 have hbm:=(xI (l:=(List.range (2 ^ ps.length-1)).filter (CB ps)) (all:=2 ^ ps.length-1)).1
 have hb16:eF (2 ^ ps.length-1) ((List.range (2 ^ ps.length-1)).filter (CB ps))<16:=by
  rcases List.mem_cons.1 hbm with h | h
  ·rw[h];exact hall
  ·have:=List.mem_range.1 (List.mem_filter.1 h).1;omega
 have hi:=List.all_eq_true.1 (List.all_eq_true.1 aj_ _ (List.mem_range.2 hb16)) (s'&&&(2 ^ ps.length-1)) (List.mem_range.2 (by omega))
 exact of_decide_eq_true hi hb
theorem ajU(main:Side)(hS:∀S,main.ok S→∃Fin,S=Mo prog Fin)(hmb:main.b=true)(h:Hp)(nums:List Int)(lv:Value)(Eg:TypeId)(zg:Nat×Nat)(hl:Sl h fH lv nums)(hg:h 0=some (.cells #[Ur qM] Eg zg))(z0:h.z 0):QE prog main ahk #[lv] h (.bool true):=by
 refine QE.aG ahP rfl (by show 1≤87;decide) [(0,lv)] ⟨rfl,trivial⟩ ?_
 refine W.seq<|W.region rfl<|agb rfl rfl rfl<|pq<|W.seq<|W.region rfl<|qm rfl rfl rfl ?_
 refine c0 (fun h' hE hL=>VQ _ h' nums lv (hl.ext hE)) (fun v A' hv=>?_)
 obtain⟨b,s0,rfl,rfl⟩:=hv
 refine agb rfl rfl rfl<|pq<|W.seq<|W.region rfl<|qm rfl rfl rfl ?_
 refine cg (A:=[(b,wF lv 0 s0)]) .head (fun h' hE hL=>VT _ h' nums lv b 0 s0 3 (hl.ext hE) (by omega) (by omega)) (fun v A' hv=>?_)
 obtain⟨ps,Sp,k',s',hO,⟨hpl,hck⟩,hk',hsb⟩:=hv
 refine Ops.sb (F':=Sp++[(b,wF lv k' s')]) (by rw[List.append_nil];exact Sb.trans (.dF List.perm_append_comm) hsb) ?_
 have hps:=aaD (by omega) hck
 have hok:=iP.yB hps
 have h4:=hok.len
 refine agb rfl rfl rfl<|pq ?_
 refine JU hO (fun hz hEz hsl hzs=>?_)
 obtain⟨a,cap,rfl⟩:=hsl.dA
 have hgz:=hEz.1 _ _ hg
 refine W.seq<|W.region rfl<|qm rfl rfl rfl ?_
 refine c0 (fun h' hE hL=>aij _ h' ps _ (hsl.ext hE) (by omega)) (fun v A' hv=>?_)
 obtain⟨S1,hS1,Ym⟩:=hv
 refine Ops.sb (F':=S1++[(b,wF lv k' s')]) (Ym.app .refl) ?_
 refine qm rfl rfl rfl ?_
 refine cg (A:=[(b,wF lv k' s')]) (.app .all) (fun h' hE hL=>YN _ h' nums lv b k' s' (hl.ext (hEz.trans hE)) (by omega)) (fun v A' hv=>?_)
 obtain⟨p,s2,rfl,hpk,Oh⟩:=hv
 refine Ops.sb (F':=S1++[]) (.app .refl (.nil (Sb.trans (.nil (.cons rfl .nil)) Oh).shut)) ?_
 refine Ops.NK (cs:= #[I p.lo,I p.hi,I p.sh]) (fun alR=>?_) rfl (hf:=by kernel_rfl)
 refine oe rfl wn rfl rfl (iW (row:=Pn.row) (l':=[p]) rfl rfl rfl hS1 (.tail .head) (fun h2 _ hl=>Sl.mk (hl alR _ (.head _)) rfl (Part.all (Pn.row p))) (by simp;omega) (by decide) rfl (fun v2 S2 hS2=>?_))
 refine Ops.sb (F':=S2++[]) (.skip rfl .refl) ?_
 have akv:nV (ps++[p])=0:=aaD (by simp;omega) fun x hx=>by
  rcases List.mem_append.1 hx with hx | hx
  ·exact hck x hx
  ·rw[List.mem_singleton.1 hx];exact hpk
 refine agb rfl rfl rfl<|pq ?_
 refine JU hS2 (fun hz2 agM hsm hzm=>?_)
 obtain⟨a2,cap2,rfl⟩:=hsm.dA
 replace hgz:=agM.1 _ _ hgz
 replace hsl:=hsl.ext agM
 replace hzs:=hzs.ext agM
 refine W.seq<|W.region rfl<|qm rfl rfl rfl ?_
 refine c0 (fun h' hE hL=>afo _ h' ps _ (hsl.ext hE)) (fun v A' hv=>?_)
 obtain⟨w,S,rfl,hS3,afy⟩:=hv
 rw[ae4 hps]at hS3⊢
 dsimp only at hS3
 refine Ops.sb (F':=S++[]) (by simpa using afy) ?_
 refine qm rfl rfl rfl<|oq (bD rfl rfl rfl) rfl wn rfl rfl<|oq (bD rfl rfl rfl) rfl wn rfl rfl<|agb rfl rfl rfl<|agb rfl rfl rfl<|pq ?_
 refine JU hS3 (fun hz3 aiX hsa _=>?_)
 obtain⟨a3,cap3,rfl⟩:=hsa.dA
 rw[kT]at hsa⊢
 replace hgz:=aiX.1 _ _ hgz
 replace hsl:=hsl.ext aiX
 replace hsm:=hsm.ext aiX
 replace hzs:=hzs.ext aiX
 replace hzm:=hzm.ext aiX
 refine W.seq<|W.region rfl<|qm rfl rfl rfl ?_
 refine c0 (fun h' hE hL=>afo _ h' (ps++[p]) _ (hsm.ext hE)) (fun v A' hv=>?_)
 obtain⟨w,S,rfl,hS4,af4⟩:=hv
 rw[ae4 akv]at hS4⊢
 dsimp only at hS4
 refine Ops.sb (F':=S++[]) (by simpa using af4) ?_
 refine qm rfl rfl rfl<|oq (bD rfl rfl rfl) rfl wn rfl rfl<|oq (bD rfl rfl rfl) rfl wn rfl rfl<|agb rfl rfl rfl<|agb rfl rfl rfl<|pq ?_
 refine JU hS4 (fun hz4 aj3 akw _=>?_)
 obtain⟨a4,cap4,rfl⟩:=akw.dA
 rw[kT]at akw⊢
 replace hgz:=aj3.1 _ _ hgz
 replace hsl:=hsl.ext aj3
 replace hsm:=hsm.ext aj3
 replace hsa:=hsa.ext aj3
 replace hzs:=hzs.ext aj3
 replace hzm:=hzm.ext aj3
 refine W.seq<|W.region rfl<|qm rfl rfl rfl ?_
 refine c0 (fun h' hE hL=>YB _ h' ps _ hS hmb (hsl.ext hE) (hzs.ext hE)) (fun v A' hv=>?_)
 obtain⟨w,rfl,hw⟩:=hv
 rw[if_pos hps]at hw
 rw[hps]
 obtain⟨a5,cap5,rfl⟩:=hw.dA
 rw[kT]
 refine Ops.sb (F':=[]) (.nil (hw.shut.app .nil)) ?_
 refine qm rfl rfl rfl<|oq (bD rfl rfl rfl) rfl wn rfl rfl<|oq (bD rfl rfl rfl) rfl wn rfl rfl<|agb rfl rfl rfl<|agb rfl rfl rfl<|pq<|W.seq<|W.region rfl<|qm rfl rfl rfl ?_
 refine c0 (fun h' hE hL=>YB _ h' (ps++[p]) _ hS hmb (hsm.ext hE) (hzm.ext hE)) (fun v A' hv=>?_)
 obtain⟨w,rfl,hw2⟩:=hv
 rw[if_pos akv]at hw2
 rw[akv]
 obtain⟨a6,cap6,rfl⟩:=hw2.dA
 rw[kT]
 refine Ops.sb (F':=[]) (.nil (hw2.shut.app .nil)) ?_
 have hwm:∀k,dD (dO ps 0) 13 k=true→dD (dO (ps++[p]) 0) 13 k=true:=fun k hk=>aj0 (aj1 (c:=0) (c':=0) hpl fun i _ h=>h) hk
 have hle:(qsL fun k=>dD (dO ps 0) 13 k).length≤(qsL fun k=>dD (dO (ps++[p]) 0) 13 k).length:=aku hwm
 have hlc:=aj2 (p:=p) hpl
 have hla:=afn (f:=fun k=>dD (dO ps 0) 13 k)
 have hlb:=afn (f:=fun k=>dD (dO (ps++[p]) 0) 13 k)
 refine qm rfl rfl rfl<|oq (bD rfl rfl rfl) rfl wn rfl rfl<|oq (bD rfl rfl rfl) rfl wn rfl rfl<|agb rfl rfl rfl<|agb rfl rfl rfl<|pq<|W.seq<|W.seq<|W.region rfl ?_
 refine qm rfl rfl rfl ?_
 refine KU (nG rfl rfl rfl) (congrArg Value.bool (show decide ((0:Int)≠0)=false by decide)) rfl wn rfl rfl ?_
 refine qm rfl rfl rfl ?_
 refine oq (aN rfl rfl) rfl (ak rfl rfl rfl) rfl rfl ?_
 refine KU (nG rfl rfl rfl) (congrArg Value.bool (show decide ((0:Int)≠0)=false by decide)) rfl (ak rfl rfl rfl) rfl rfl ?_
 refine agW (iH rfl rfl rfl) rfl ?_
 refine qm rfl rfl rfl ?_
 refine oq (aN rfl rfl) rfl (ak rfl rfl rfl) rfl rfl ?_
 refine KU (nG rfl rfl rfl) (congrArg Value.bool (show decide ((0:Int)≠0)=false by decide)) rfl (ak rfl rfl rfl) rfl rfl ?_
 refine agW (iH rfl rfl rfl) rfl ?_
 refine qm rfl rfl rfl ?_
 refine oq (aN rfl rfl) rfl (ak rfl rfl rfl) rfl rfl ?_
 refine KU (nG rfl rfl rfl) (congrArg Value.bool (show decide ((0:Int)≠0)=false by decide)) rfl (ak rfl rfl rfl) rfl rfl ?_
 refine agW (iH rfl rfl rfl) rfl ?_
 refine qm rfl rfl rfl ?_
 refine oq (aN rfl rfl) rfl (ak rfl rfl rfl) rfl rfl ?_
 refine oq (dM rfl rfl) rfl (ak rfl rfl rfl) rfl rfl ?_
 refine oq (aN rfl rfl) rfl (ak rfl rfl rfl) rfl rfl ?_
 refine oq (dM rfl rfl) rfl (ak rfl rfl rfl) rfl rfl ?_
 refine KU (rC rfl rfl rfl) (congrArg Value.bool (decide_eq_false (by omega))) rfl (ak rfl rfl rfl) rfl rfl ?_
 refine agW (iH rfl rfl rfl) rfl ?_
 refine qm rfl rfl rfl ?_
 refine oq (aN rfl rfl) rfl (ak rfl rfl rfl) rfl rfl ?_
 refine oq (dM rfl rfl) rfl (ak rfl rfl rfl) rfl rfl ?_
 refine oq (aN rfl rfl) rfl (ak rfl rfl rfl) rfl rfl ?_
 refine oq (dM rfl rfl) rfl (ak rfl rfl rfl) rfl rfl ?_
 refine KU (rC rfl rfl rfl) (congrArg Value.bool (decide_eq_false (by omega))) rfl (ak rfl rfl rfl) rfl rfl ?_
 refine agW (iH rfl rfl rfl) rfl ?_
 refine pq ?_
 refine W.bZ ?_
 refine W.skip<|aA<|W.seq<|W.seq<|W.region rfl<|agb rfl rfl rfl<|pq<|W.block ?_
 refine W.loop (σ:=Nat) (fun i=>i≤(qsL fun k=>dD (dO ps 0) 13 k).length) (fun i=>[(14,I i),(8,.slice a4 (qsL fun k=>dD (dO (ps++[p]) 0) 13 k).length cap4),(6,.slice a3 (qsL fun k=>dD (dO ps 0) 13 k).length cap3)]) (fun _=>[]) (fun i=>(qsL fun k=>dD (dO ps 0) 13 k).length-i) 0 (Nat.zero_le _) ⟨rfl,rfl,rfl,trivial⟩ TW ?_
 rintro i hi
 refine W.seq<|W.seq<|W.region rfl<|qm rfl rfl rfl<|qm rfl rfl rfl ?_
 refine agW (dM rfl rfl) rfl ?_
 refine agW (fO rfl rfl rfl) rfl ?_
 refine pq ?_
 refine W.bC rfl (fun c76=>?_) (fun c76=>?_)
 ·have hil:i<(qsL fun k=>dD (dO ps 0) 13 k).length:=by omega
  obtain⟨x,hx,-⟩:=has hil
  obtain⟨alS,hxw⟩:=afm.1 (List.mem_of_getElem? hx)
  obtain⟨bo,aiK,co,Eo,fzo,hvo,hbo,-,-,hzo⟩:=hsa.at (show(zs (qsL fun k=>dD (dO ps 0) 13 k))[i]? =some (x:Int) by rw[zs,List.getElem?_map,hx];rfl)
  cases hvo
  have hco:co[aiK+i*1]? =some (I x):=hzo 0 (by decide)
  refine W.skip<|aA<|W.seq<|W.block<|W.seq<|W.region rfl<|qm rfl rfl rfl<|qm rfl rfl rfl<|qm rfl rfl rfl ?_
  refine ag3 rfl ?_
  refine agX rfl ?_
  refine c0 (fun h' hE hL=>afl _ h' _ _ x (akw.ext hE) (by rw[kT];omega)) (fun v A' hv=>?_)
  obtain⟨fi,rfl,hfi,hA⟩:=hv
  refine Ops.sb (F':=[]) (.nil (hA.app .nil)) ?_
  have hf0:0≤fi:=hfi.2 (List.mem_map.2 ⟨x,afm.2 ⟨alS,hwm x hxw⟩,rfl⟩)
  refine agW (fO rfl rfl rfl) rfl ?_
  refine pq ?_
  refine W.bC rfl (fun c85=>?_) (fun c85=>?_)
  ·refine W.seq<|W.region rfl<|agb rfl rfl rfl<|pq<|W.ret<|cZ<|aY<|aY<|cZ ?_
   refine aY ?_
   exfalso;omega
  ·refine W.skip<|dI<|aA<|W.region rfl<|qm rfl rfl rfl ?_
   refine ag1 rfl ?_
   refine agb rfl rfl rfl<|pq ?_
   exact⟨rfl,i+1,hil,by omega,⟨rfl,rfl,rfl,trivial⟩,TW⟩
 ·refine W.exit<|bP<|bP<|gG<|aA<|W.seq<|W.region rfl ?_
  refine cp (fun h' hE hL=>VW _ h' hS hmb _ _ (hE.1 _ _ (by assumption))) ?_
  refine agb rfl rfl rfl<|pq<|W.ret ?_
  exact lvq rfl
end Go.aS

/- SyrupMore's card. Conditions: as the card says; over the given program. -/
namespace Go.Proofs.YtkkdgffaohidnaaGreatDoor
open Go Go.aS
set_option maxRecDepth 100000
set_option maxHeartbeats 4000000
theorem ajB:joinedFacts prog ahk ahl Rows.syrupMoreSpec Rows.syrupMoreRow=true:=by
 unfold joinedFacts
 repeat' with_reducible refine Bool.and_eq_true_iff.2 ⟨?_,?_⟩
 all_goals first
  | with_reducible exact aci
  | (with_reducible refine makeT ?_;kernel_rfl)
  | (with_reducible refine aeb ?_;kernel_rfl)
  | (as_aux_lemma=>kernel_rfl)
theorem ajz:prog.funcNamed Rows.syrupMoreRow.func=some ahk:=by kernel_rfl
theorem ajS:prog.mainIs=some (true, "dbc29bbb9727fbebaf7429f7266f9d82b5a02ec0969210b724e1ed2dac66cc8d".toList):=ad9
theorem ajT:true=Rows.syrupMoreRow.goesBy prog:=by kernel_rfl
theorem ajL:true=prog.looks []:=by kernel_rfl
theorem ajV:Rows.SyrupMoreSaid:=
 OpenClaim.holds_of_wide_leaving_time ahk ahl rfl rfl rfl rfl rfl rfl rfl ⟨rfl,rfl,rfl,rfl,rfl⟩ rfl rfl rfl rfl rfl ajz ahP ajB
  (of_decide_eq_true (by kernel_rfl)) (by unfold Func.isWrapper;first | (rw[if_pos (by decide+kernel)];kernel_rfl) | (rw[if_neg (by decide+kernel)];exact⟨rfl,rfl⟩))
  (
   fun os started H enc _ F=>ad7 (s:=Rows.syrupMoreSpec) os started H enc ahP (by kernel_rfl) (by kernel_rfl) (by kernel_rfl) (by kernel_rfl) (by kernel_rfl) rfl (fun _=>rfl)
   (OB (enc:=enc) (C:=Tryz.checked) (os:=os) (X:=fun w _=>laidMetH prog J9 w) (laidWorld os) #[.slice none 0 0] 8 rfl (by kernel_rfl) (by kernel_rfl) (by kernel_rfl) (by kernel_rfl) (by kernel_rfl) (laidWorld_met os _))
   (fun main hS hmb h nums lv Eg zg hl hg z0=>ajU main hS hmb h nums lv Eg zg hl hg z0) F)

theorem SyrupMore_card:Rows.SyrupMoreCardSaid:=
 VZ .later [] [.handle] true (true, "dbc29bbb9727fbebaf7429f7266f9d82b5a02ec0969210b724e1ed2dac66cc8d") true
  ajV (fun _ h=>by cases h) (by kernel_rfl) (fun _ h=>by cases h) syrupMore_row_tie rfl ⟨rfl,rfl⟩ ajS rfl
  (
   fun f fn hf hfn=>by
   obtain rfl:f=ahk:=(Option.some.inj (ajz.symm.trans hf)).symm
   obtain rfl:fn=ahl:=(Option.some.inj (ahP.symm.trans hfn)).symm
   exact⟨ajL,fun j t ht=>by
    rw[show(ahl).params= #[nS] by kernel_rfl]at ht
    have h3:t=nS:=by
     rcases j with _ | j
     ·simpa using ht.symm
     ·simp at ht
    subst h3
    exact(show prog.wantsStandIn nS=false by kernel_rfl)⟩)
  ajT
#print axioms SyrupMore_card
end Go.Proofs.YtkkdgffaohidnaaGreatDoor
