/- What is reached in so many steps, as the laws find it. Conditions: none; no program in sight. (And 24 texts more.) -/
import Derived.Test.YtkkdgffaohidnaaGreatDoorR10
import Derived.Test.YtkkdgffaohidnaaGreatDoorR13
import Derived.Test.YtkkdgffaohidnaaGreatDoorR11
set_option linter.unusedVariables false
set_option linter.unusedSimpArgs false
set_option linter.unusedSectionVars false

/- What is reached in so many steps, as the laws find it. Conditions: none; no program in sight. -/
namespace Go.aS
set_option linter.unusedVariables false
end Go.aS

/- Operations that come up in any order and only add to what is owned. Conditions: none; over any program. -/
namespace Go.aS
abbrev Spc:=Nat×Nat×(Value→ah→Prop)
def waits(ops:Array Oper):Nat→Nat→Nat→Bool
 | 0,_,_=>false
 | n+1,k,b=>match ops[k]? with | some o=>o.after.any fun e=>iG e&&(Nat.beq e.on b|| waits ops n e.on b) | none=>false
structure Y4(ops:Array Oper)(listed:Nat)(B:List Nat):Prop where
 cl:Closed ops listed
 low:∀k o,ops[k]? =some o→∀e∈o.after,iG e=true→e.on<k
 or:∀k,k<ops.size→listed.testBit k=false→k∈B∨∀b∈B,waits ops 6 k b=true
 un:∀b∈B,b<ops.size∧listed.testBit b=false
 nd:B.Nodup

theorem Y4.some{ops:Array Oper}{listed:Nat}{B:List Nat}(h:Y4 ops listed B){b:Nat}(hb:b∈B):qx ops listed≠[]:=by
 have key:∀(n k:Nat),k<n→k<ops.size→listed.testBit k=false→∃i,Fq ops listed i=true:=by
  intro n
  induction n with
  | zero=>intro k hk;omega
  | succ n ih=>
   intro k hk hlt hl
   by_cases hr:Fq ops listed k=true
   ·exact⟨k,hr⟩
   ·simp only[Fq,Array.getElem?_eq_getElem hlt,hl,Bool.not_false,Bool.true_and,Array.all_eq_true_iff_forall_mem,Bool.or_eq_true,Bool.not_eq_true']at hr
    have:∃e∈(ops[k]).after,iG e=true∧listed.testBit e.on=false:=by
     refine Classical.byContradiction fun hn=>hr fun e he=>?_
     cases hbe:iG e with
     | false=>exact .inl rfl
     | true=>
      cases ht:listed.testBit e.on with
      | true=>exact .inr rfl
      | false=>exact absurd ⟨e,he,hbe,ht⟩ hn
    obtain⟨e,he,h1,h2⟩:=this
    have:=h.low k _ (Array.getElem?_eq_getElem hlt) e he h1
    exact ih e.on (by omega) (by omega) h2
 obtain⟨i,hi⟩:=key (b+1) b (by omega) (h.un b hb).1 (h.un b hb).2
 intro e
 have:=o8.2 hi
 rw[e]at this
 cases this

theorem Y4.step{ops:Array Oper}{listed j:Nat}{B1 B2:List Nat}(h:Y4 ops listed (B1++j::B2))(hj:Fq ops listed j=true):Y4 ops (listed||| 2 ^ j) (B1++B2):=by
 have hnd:j∉B1++B2:=by
  have:=(List.perm_middle (a:=j) (l₁:=B1) (l₂:=B2)).nodup_iff.1 h.nd
  exact(List.nodup_cons.1 this).1
 refine⟨h.cl.step hj,h.low,fun k hk hl=>?_,fun b hb=>?_,?_⟩
 ·rw[testBit_or,Bool.or_eq_false_iff]at hl
  have hne:j≠k:=by simpa using hl.2
  rcases h.or k hk hl.1 with h' | h'
  ·left
   rcases List.mem_append.1 h' with h' | h'
   ·exact List.mem_append_left _ h'
   ·rcases List.mem_cons.1 h' with h' | h'
    ·exact absurd h'.symm hne
    ·exact List.mem_append_right _ h'
  ·right
   intro b hb
   refine h' b ?_
   rcases List.mem_append.1 hb with hb | hb
   ·exact List.mem_append_left _ hb
   ·exact List.mem_append_right _ (List.mem_cons_of_mem _ hb)
 ·have hb':b∈B1++j::B2:=by
   rcases List.mem_append.1 hb with hb | hb
   ·exact List.mem_append_left _ hb
   ·exact List.mem_append_right _ (List.mem_cons_of_mem _ hb)
  refine⟨(h.un b hb').1,?_⟩
  rw[testBit_or,(h.un b hb').2,Bool.false_or,decide_eq_false_iff_not]
  rintro rfl
  exact hnd hb
 ·have:=(List.perm_middle (a:=j) (l₁:=B1) (l₂:=B2)).nodup_iff.1 h.nd
  exact(List.nodup_cons.1 this).2

def Adds(x:Cx)(ops:Array Oper)(ε:Ev)(s:Spc):Prop:=
 ∃o,ops[s.1]? =some o∧o.dst=some s.2.1∧d_ o.dst x.n=true∧(∀c,o.op≠ .defer c)∧o.guard=none∧∀e,Cons ε e→∀F,Dx x o e F fun v F'=>∃A Lp,Lp.Perm F'∧s.2.2 v A∧Lp=A++F

theorem Cons.back{ε:Ev}{d:Nat}{v:Value}{e:Operand→Value}(h:Cons (upd ε (some d) v) e)(hd:ε d=none):Cons ε e:=fun y u hy=>h y u (by
 cases y with
 | tmp t=>
  simp only[UK,upd]at hy⊢
  cases hb:Nat.beq t d with
  | true=>rw[Nat.eq_of_beq_eq_true hb,hd]at hy;cases hy
  | false=>exact hy
 | _=>exact hy)

section rules
variable{x:Cx}{Q:Post}{ρ:Env}{ds:List Deferred}{F:ah}{ops:Array Oper}{L:ah}{fuel listed:Nat}
theorem Adds.of{i d:Nat}{P:Value→ah→Prop}{op:Op}{ty:TypeId}{pos:String}{bK:Array Edge}(ho:cO ops.toList i=some ⟨some d,op,ty,pos,bK,none⟩)(hd:Nat.blt d x.n=true)(hn:cu op=true)(H:∀F,Ef x ρ ⟨some d,op,ty,pos,bK,none⟩ F fun v F'=>∃A,P v A∧F'=A++F):Adds x ops (look ρ) (i,d,P):=
 ⟨_,aU ho,rfl,hd,gI hn,rfl,fun e he F=>(H F e fun y v hy=>he y v (by rw[DC];exact hy)).mono fun v F' ⟨Lp,p,A,hv,e⟩=>⟨A,Lp,p,hv,e⟩⟩
theorem Adds.call{i d f:Nat}{P:Value→ah→Prop}{args:List Operand}{ts:Array TypeId}{vs:List Value}{ty:TypeId}{pos:String}{bK:Array Edge}(H:∀h',Ext x.h h'→dV x.P x.main f vs.toArray h' [] P)(ho:cO ops.toList i=some ⟨some d,.call ⟨.value (.func f),args.toArray,ts⟩,ty,pos,bK,none⟩:=by rfl)[FB x.P f](hv:evs ρ args=some vs:=by rfl)(hd:Nat.blt d x.n=true:=by rfl):Adds x ops (look ρ) (i,d,P):=
 .of ho hd rfl fun F=>lQ rfl hv (fun h' hE _=>H h' hE) fun v A' hv=>⟨A',hv,rfl⟩
end rules
end Go.aS
namespace Go.aS
section
variable{α:Type}{row:α→List Value}{w:Nat}[rw':Rw row w]
section
variable{x:Cx}{ρ:Env}{F:ah}{o:Oper}{R:Value→ah→Prop}
end
end
section
variable{x:Cx}{S:ah→Prop}{ρ:Env}{o:Oper}
end
end Go.aS
namespace Go.aS
section
variable{x:Cx}{Q:Post}{ρ:Env}{ds:List Deferred}{ops:Array Oper}{G:ah}{y₁ y₂ y₃ y₄ agp agq:Nat×Obj}{id n:Nat}
end
theorem agQ{α:Type}{l l':List α}(h:∀[DecidableEq α] (a:α),l.count a=l'.count a):l.Perm l':=by
 classical
 exact List.perm_iff_count.2 fun a=>h a
end Go.aS
namespace Go.aS
theorem Os.open{α:Type}{row:α→List Value}{w:Nat}[Rw row w]{E:TypeId}{a:Option Addr}{n cap:Nat}{l:List α}{A:ah}(h:Os E row (.slice a n cap) l A)(hne:0<l.length):∃β c J,a=some ⟨β,0,none⟩∧A=(β,.cells c E (0,0))::J∧n=l.length∧c.size=cap*w∧l.length≤cap∧Part c 0 (flat row l)∧Shut J:=by
 rcases h with⟨rfl,_,_⟩ | ⟨β,c,cp,J,hv,rfl,h1,h2,h3,h4⟩
 ·simp at hne
 ·injection hv with e1 e2 e3
  subst e1 e2 e3
  exact⟨β,c,J,rfl,rfl,rfl,h1,h2,h3,h4⟩
end Go.aS

/- Slices of slices; makeSlice. Conditions: none; over any program. -/
namespace Go.aS
structure Sv where
  a:Option Addr
  n:Nat
  cap:Nat
abbrev Sv.val(s:Sv):Value:=.slice s.a s.n s.cap
def ags(s:Sv):List Value:=[.slice s.a s.n s.cap]
instance:Rw ags 1:=⟨fun _=>rfl,fun _=>rfl⟩

section
variable{α:Type}{row:α→List Value}{w:Nat}[rw':Rw row w]{E:TypeId}
inductive UG(E:TypeId)(row:α→List Value)[Rw row w]:List Sv→List (List α)→ah→Prop
  | nil:UG E row [] [] []
  | cons {s:Sv} {l:List α} {A B:ah} {vs:List Sv} {ls:List (List α)}:Os E row s.val l A→UG E row vs ls B→UG E row (s::vs) (l::ls) (A++B)
theorem UG.len{vs:List Sv}{ls:List (List α)}{A:ah}(h:UG E row vs ls A):vs.length=ls.length:=by
  induction h with
  | nil=>rfl
  | cons _ _ ih=>simp[ih]
theorem UG.shut{vs:List Sv}{ls:List (List α)}{A:ah}(h:UG E row vs ls A):Shut A:=by
  induction h with
  | nil=>exact .nil
  | cons h _ ih=>exact h.shut.app ih
theorem UG.snoc{vs:List Sv}{ls:List (List α)}{A B:ah}{s:Sv}{l:List α}(h:UG E row vs ls A)(hs:Os E row s.val l B):UG E row (vs++[s]) (ls++[l]) (A++B):=by
  induction h with
  | nil=>have:=UG.cons hs .nil;simpa using this
  | cons h1 _ ih=>have:=UG.cons h1 ih;rw[←List.append_assoc]at this;exact this
theorem UG.sl{vs:List Sv}{ls:List (List α)}{A:ah}{h':Hp}(h:UG E row vs ls A)(hL:∀b o,(b,o)∈A→h' b=some o):∀{k:Nat} {s:Sv} {l:List α},vs[k]? =some s→ls[k]? =some l→Sl h' row s.val l:=by
  induction h with
  | nil=>intro k s l hs;simp at hs
  | cons h1 _ ih=>
    intro k s l hs hl
    rcases k with _ | k
    · simp at hs hl;subst hs hl
      exact h1.sl fun b o hb=>hL b o (List.mem_append_left _ hb)
    · simp at hs hl
      exact ih (fun b o hb=>hL b o (List.mem_append_right _ hb)) hs hl
theorem agG{x:Cx}{c:Code}{Q:Post}{ρ:Env}{ds:List Deferred}{A F:ah}{vs:List Sv}{ls:List (List α)}(hs:UG E row vs ls A)
    (H:∀h',Ext x.h h'→(∀(k:Nat) (s:Sv) (l:List α),vs[k]? =some s→ls[k]? =some l→Sl h' row s.val l∧Zs h' s.val)→W {x with h:=h'} c Q ρ ds F):W x c Q ρ ds (A++F):=by
  induction hs generalizing x with
  | nil=>exact H x.h ⟨fun _ _ q=>q,fun _ q=>q⟩ fun k s l hk=>by simp at hk
  | cons h1 h2 ih=>
    rw[List.append_assoc]
    refine JU h1 fun h' hE hsl hz=>ih (x:={x with h:=h'}) fun h'' hE' hall=>H h'' (hE.trans hE') fun k s l hk hl=>?_
    rcases k with _ | k
    · simp at hk hl;subst hk hl
      exact⟨hsl.ext hE',hz.ext hE'⟩
    · simp at hk hl
      exact hall k s l hk hl
theorem Sv.eta{v:Value}{l:List α}{A:ah}(h:Os E row v l A):∃s:Sv,v=s.val:=by
  obtain⟨a,cap,rfl⟩:=h.dA
  exact⟨⟨a,_,cap⟩,rfl⟩
end
/-! makeSlice -/
section
variable{x:Cx}{ρ:Env}{F:ah}{o:Oper}{R:Value→ah→Prop}
end
end Go.aS

/- Sets of qualities, as the laws keep them. Conditions: none; over the given program. -/
namespace Go.aS
set_option maxRecDepth 100000
set_option maxHeartbeats 4000000
abbrev V9(β:Nat):Value:=.slice (some ⟨β,0,none⟩) 13 13
abbrev bsO(f:Nat→Bool):Obj:=.cells (bA f) RS (0,0)
end Go.aS

/- SyrupLongest. Conditions: none; over the given program. -/
namespace Go.aS
set_option maxRecDepth 100000
set_option maxHeartbeats 4000000
end Go.aS

/- What goes round for ever comes to a ring. Conditions: none; no program in sight. -/
namespace Go.aS
set_option linter.unusedVariables false
end Go.aS

/- All ways of so many steps; the first of them. Conditions: none; no program in sight. -/
namespace Go.aS
set_option linter.unusedVariables false
end Go.aS

/- All lists of so many numbers, as a program makes them; all ascending ones. Conditions: none; no program in sight. -/
namespace Go.aS
set_option linter.unusedVariables false
end Go.aS

/- All lists of so many numbers. Conditions: none; over the given program. -/
namespace Go.aS
set_option maxRecDepth 100000
set_option maxHeartbeats 4000000
end Go.aS

/- Ways, as the laws make them. Conditions: none; over the given program. -/
namespace Go.aS
set_option maxRecDepth 100000
set_option maxHeartbeats 4000000
end Go.aS

/- Comparing truth values. Conditions: none; over any program. -/
namespace Go.aS
section
variable{x:Cx}{ρ:Env}{S:ah→Prop}{o:Oper}{v:Value}
end
end Go.aS

/- Shut blocks are put by. Conditions: none; over any program. -/
namespace Go.aS
theorem W.cut{x:Cx}{c c2:Code}{Q:Post}{ρ:Env}{ds:List Deferred}{F:ah}(L:Env)(G:ah)(H:W x c (fun e ρ' ds' F'=>e= .normal∧ds'=ds∧Sub L ρ'∧Sb G F') ρ ds F)(K:W x c2 Q L ds G):W x c (thn (fun ρ' ds' F'=>W x c2 Q ρ' ds' F') Q) ρ ds F:=
 W.mono H fun e ρ' ds' F' h=>by
  obtain⟨he,hd,hs,hb⟩:=h
  subst he hd
  exact aA (W.env hs (W.sb hb K))
end Go.aS

/- SyrupRing. Conditions: none; over the given program. -/
namespace Go.aS
set_option maxRecDepth 100000
set_option maxHeartbeats 4000000
end Go.aS

/- From where syrups go round for ever: the list. Conditions: none; over the given program. -/
namespace Go.aS
set_option maxRecDepth 100000
set_option maxHeartbeats 4000000
def qsL(f:Nat→Bool):List Nat:=(List.range 13).filter f
theorem afm{f:Nat→Bool}{q:Nat}:q∈qsL f↔q<13∧f q=true:=by simp[qsL]
theorem afn{f:Nat→Bool}:(qsL f).length≤13:=Nat.le_trans (List.length_filter_le ..) (by simp)
theorem ae1(main:Side)(h:Hp)(f:Nat→Bool):dV prog main aaV #[.agg (bA f)] h [] (fun v A=>∃S,Os dL fH v (zs (qsL f)) S∧Sb S A):=by
 refine dV.aG aa2 rfl (by show 1≤18;decide) [(0,.agg (bA f))] ⟨rfl,trivial⟩ ?_
 have hsz:(bA f).size=13:=nX
 have hon:ones (bA f).toList=true:=Un
 refine W.seq<|W.region rfl ?_
 refine Ops.box (cs:=bA f) (fun β1=>?_)
 refine agb rfl rfl rfl<|pq<|W.seq<|W.region rfl<|agb rfl rfl rfl<|pq<|W.seq<|W.seq ?_
 refine W.region rfl ?_
 refine ag2 rfl ?_
 refine qm rfl rfl rfl<|pq<|W.block ?_
 refine W.Js (fun(k:Nat) (v:Value) (S:ah)=>k≤13∧Os dL fH v (zs ((List.range k).filter f)) S) (fun k v S=>[(7,I k),(6,.agg (bA f)),(3,v),(1,.pointer (some ⟨β1,0,none⟩))]) (fun k v S=>S++[(β1,.cells (bA f) aP (0,0))]) (fun k _ _=>13-k) 0 (.slice none 0 0) [] ⟨Nat.zero_le _,.nil .nil⟩ ⟨rfl,rfl,rfl,rfl,trivial⟩ .refl ?_
 rintro k v S ⟨hk,hS⟩
 refine W.seq<|W.region rfl ?_
 refine agW (fO rfl rfl rfl) rfl ?_
 refine pq<|W.seq ?_
 refine W.bC rfl (fun c8=>?_) (fun c8=>?_)
 ·have Vq:k<13:=by omega
  have hlen:(zs ((List.range k).filter f)).length≤13:=by rw[kT];exact Nat.le_trans (List.length_filter_le ..) (by simp;omega)
  refine W.skip<|aA<|W.seq<|W.block<|W.seq<|W.region rfl<|qm rfl rfl rfl ?_
  refine agW (Ti (n:=k) (v:=.bool (f k)) rfl rfl rfl (by omega) (by omega) (by rw[Int.toNat_natCast,Nat.mul_one];exact L9 Vq)) rfl ?_
  refine agb rfl rfl rfl<|agb rfl rfl rfl<|pq<|W.seq<|W.region rfl<|qm rfl rfl rfl<|pq ?_
  refine W.cond rfl (fun c11=>?_) (fun c11=>?_)
  ·refine W.region rfl<|qm rfl rfl rfl<|qm rfl rfl rfl ?_
   refine Ops.NK (cs:= #[I k]) (fun aht=>?_) rfl
   refine oe rfl wn rfl rfl (iW (row:=fH) (l':=[(k:Int)]) rfl rfl rfl hS (.tail .head) (fun h2 _ hl=>Sl.mk (hl aht _ (.head _)) rfl (Part.all [I k])) (by simp;omega) (by decide) rfl (fun v' S' hS'=>?_))
   refine agb rfl rfl rfl<|Ops.nil<|dI<|aA<|W.region rfl ?_
   refine ag1 rfl ?_
   refine qm rfl rfl rfl<|pq ?_
   exact⟨rfl,k+1,v',S',⟨by omega,by rw[List.range_succ,List.filter_append,X3];simpa[zs,c11]using hS'⟩,by omega,⟨rfl,rfl,rfl,rfl,trivial⟩,.skip rfl .refl⟩
  ·refine W.skip<|dI<|aA<|W.region rfl ?_
   refine ag1 rfl ?_
   refine qm rfl rfl rfl<|pq ?_
   exact⟨rfl,k+1,v,S,⟨by omega,by rw[List.range_succ,List.filter_append,X3];simpa[zs,c11]using hS⟩,by omega,⟨rfl,rfl,rfl,rfl,trivial⟩,.refl⟩
 ·refine W.exit<|bP<|bP<|gG<|aA<|W.seq<|W.region rfl<|qm rfl rfl rfl<|agb rfl rfl rfl<|Ops.nil ?_
  refine aA<|W.ret ?_
  obtain rfl:k=13:=by omega
  exact mg (vs:=[v]) ⟨S,hS,.right .refl (.cons rfl .nil)⟩
def aef(ps:List Pn):List Nat×Int:=if nV ps≠0 then([],nV ps)else(qsL fun k=>dD (dO ps 0) 13 k,0)
theorem afo(main:Side)(h:Hp)(ps:List Pn)(vp:Value)(hf:Sl h Pn.row vp ps):dV prog main abZ #[vp] h [] (fun v A=>∃w S,v= .tuple #[w,I (aef ps).2]∧Os dL fH w (zs (aef ps).1) S∧Sb S A):=by
 obtain⟨a,cap,rfl⟩:=hf.dA
 refine dV.aG adO rfl (by show 1≤17;decide) [(0,.slice a ps.length cap)] ⟨rfl,trivial⟩ ?_
 have hbe:kU ps []=nV ps:=by unfold kU;split <;>simp_all
 refine W.seq<|W.region rfl<|agb rfl rfl rfl<|agb rfl rfl rfl<|pq<|W.seq<|W.region rfl<|qm rfl rfl rfl ?_
 refine cp (fun h' hE hL=>Am _ h' ps (.slice a ps.length cap) [] _ (hf.ext hE) .nil (by simp)) ?_
 refine qm rfl rfl rfl<|oq (bD rfl rfl rfl) rfl wn rfl rfl<|oq (bD rfl rfl rfl) rfl wn rfl rfl ?_
 have hcs:∃cs:Array Value,(if kU ps []=0 then xJ (.slice a ps.length cap) 0 else LZ)= .agg cs∧cs.size=2∧ones cs.toList=true:=by
  split
  ·exact⟨_,rfl,rfl,rfl⟩
  ·exact⟨_,rfl,rfl,rfl⟩
 obtain⟨cs,hcs,hcs2,hcs1⟩:=hcs
 rw[hcs,hbe]
 refine Ops.new (fun wC=>?_)
 refine Ops.jP (n:=2) (vs:=cs) ?_ (hy:=by rfl) (hn:=hcs2) (h1:=hcs1)
 refine agb rfl rfl rfl<|pq<|W.seq<|W.seq<|W.region rfl<|qm rfl rfl rfl ?_
 refine agW (nG rfl rfl rfl) rfl ?_
 refine pq ?_
 refine W.bC rfl (fun c12=>?_) (fun c12=>?_)
 ·refine W.seq<|W.region rfl<|qm rfl rfl rfl<|agb rfl rfl rfl<|agb rfl rfl rfl<|pq<|W.ret<|aY ?_
  refine mg (vs:=[_,_]) ?_
  rw[aef,if_pos (by simpa using c12)]
  exact⟨_,[],rfl,.nil .nil,.nil (by repeat(first | exact Shut.nil | refine Shut.cons rfl ?_))⟩
 ·have h0:nV ps=0:=by simpa using c12
  rw[if_pos (by rw[hbe];exact h0)]at hcs
  cases hcs
  refine W.skip<|aA<|W.seq<|W.region rfl ?_
  refine ag2 rfl ?_
  refine cp (fun h' hE hL=>Uo _ h' ps _ 0 (hf.ext hE) (iP.yB h0) (by decide)) ?_
  refine c0 (fun h' hE hL=>ae1 _ h' _) (fun v A' hv=>?_)
  obtain⟨S,hS,hsb⟩:=hv
  refine agb rfl rfl rfl<|agb rfl rfl rfl<|pq<|W.ret ?_
  refine mg (vs:=[_,_]) ?_
  rw[aef,if_neg (by simpa using h0)]
  exact⟨_,S,rfl,hS,.right hsb (.cons rfl .nil)⟩
theorem ae4{ps:List Pn}(h:nV ps=0):aef ps=(qsL fun k=>dD (dO ps 0) 13 k,0):=by rw[aef,if_neg (by simpa using h)]
end Go.aS

/- The shortest way to treacle; what treacle comes of a syrup. Conditions: none; over the given program. -/
namespace Go.aS
set_option maxRecDepth 100000
set_option maxHeartbeats 4000000
end Go.aS

/- Treacle, as the document has it. Conditions: none; over the given program. -/
namespace Go.aS
set_option maxRecDepth 100000
set_option maxHeartbeats 4000000
end Go.aS

/- SyrupShortest. Conditions: none; over the given program. -/
namespace Go.aS
set_option maxRecDepth 100000
set_option maxHeartbeats 4000000
end Go.aS

/- Pans that are forced. Conditions: none; over the given program. -/
namespace Go.aS
set_option maxRecDepth 100000
set_option maxHeartbeats 4000000
end Go.aS

/- Pans that are shut; where one comes without them. Conditions: none; no program in sight. -/
namespace Go.aS
set_option linter.unusedVariables false
def stp(g:yV)(q o:Nat):Prop:=∃p,(p,o)∈g q
theorem aix{g g':yV}(h:∀q o,stp g q o↔stp g' q o):∀{n q e:Nat},(∃v:List Nat,v.length=n∧qJ g q v e)→∃v:List Nat,v.length=n∧qJ g' q v e
 | 0,q,e,⟨v,h1,h2⟩=>by
  obtain rfl:=List.length_eq_zero_iff.1 h1
  exact⟨[],rfl,h2⟩
 | n+1,q,e,⟨v,h1,h2⟩=>by
  rcases v with _ | ⟨p,r⟩
  ·cases h1
  ·obtain⟨o,h3,h4⟩:=h2
   obtain⟨p',h5⟩:=(h q o).1 ⟨p,h3⟩
   obtain⟨r',h6,h7⟩:=aix h (n:=n) ⟨r,by simpa using h1,h4⟩
   exact⟨p'::r',by simp[h6],o,h5,h7⟩
theorem aiR{g g':yV}(h:∀q o,stp g q o↔stp g' q o){n q e:Nat}:(∃v:List Nat,v.length=n∧qJ g q v e)↔∃v:List Nat,v.length=n∧qJ g' q v e:=
 ⟨aix h,aix fun q o=>(h q o).symm⟩
theorem ajH{g g':yV}(h:∀q o,stp g q o↔stp g' q o){n q:Nat}:dD g n q=dD g' n q:=by
 rw[Bool.eq_iff_iff,JJ,JJ]
 constructor <;>rintro⟨v,e,h1,h2⟩
 ·obtain⟨v',h3,h4⟩:=(aiR h).1 ⟨v,h1,h2⟩;exact⟨v',e,h3,h4⟩
 ·obtain⟨v',h3,h4⟩:=(aiR h).2 ⟨v,h1,h2⟩;exact⟨v',e,h3,h4⟩

def ail(ps:List Pn)(l:List Int):Nat→List Pn
 | 0=>[]
 | i+1=>ail ps l i++(match ps[i]? with | some p=>if(i:Int)∈l then[]else[p] | none=>[])
def ah7(ps:List Pn)(l:List Int):List Pn:=ail ps l ps.length
theorem aiy{ps:List Pn}{l:List Int}:∀{i:Nat},(ail ps l i).length≤i
 | 0=>by simp[ail]
 | i+1=>by
  rw[ail,List.length_append]
  have:=aiy (ps:=ps) (l:=l) (i:=i)
  split
  ·split <;>simp <;>omega
  ·simp;omega
theorem aiU{ps:List Pn}{l:List Int}{p:Pn}:∀{n:Nat},p∈ail ps l n↔∃i:Nat,i<n∧ps[i]? =some p∧(i:Int)∉l
 | 0=>by simp[ail]
 | n+1=>by
  rw[ail,List.mem_append,aiU]
  constructor
  ·rintro(⟨i,h1,h2⟩ | h)
   ·exact⟨i,by omega,h2⟩
   ·split at h
    ·rename_i x hx
     split at h
     ·cases h
     ·rename_i hn
      rw[List.mem_singleton.1 h]
      exact⟨n,by omega,hx,hn⟩
    ·cases h
  ·rintro⟨i,h1,h2,h3⟩
   rcases Nat.lt_or_ge i n with h | h
   ·exact .inl ⟨i,h,h2,h3⟩
   ·obtain rfl:i=n:=by omega
    right;rw[h2];simp[h3]
theorem aiF{ps:List Pn}{l:List Int}{p:Pn}:p∈ah7 ps l↔∃i:Nat,ps[i]? =some p∧(i:Int)∉l:=by
 rw[ah7,aiU]
 constructor
 ·rintro⟨i,-,h⟩;exact⟨i,h⟩
 ·rintro⟨i,h1,h2⟩
  refine⟨i,?_,h1,h2⟩
  rcases Nat.lt_or_ge i ps.length with h | h
  ·exact h
  ·rw[List.getElem?_eq_none h]at h1;cases h1
theorem aiM{ps:List Pn}{l:List Int}:(ah7 ps l).length≤ps.length:=aiy
theorem ajn{ps:List Pn}{l:List Int}(h:nV ps=0):nV (ah7 ps l)=0:=by
 have h4:=(iP.yB h).len
 have hm:∀p∈ps,gW p=0:=by
  rw[nV,if_neg (by omega)]at h
  exact JO h
 rw[nV,if_neg (by have:=aiM (ps:=ps) (l:=l);omega)]
 have:∀qs:List Pn,(∀p∈qs,gW p=0)→lX qs=0:=by
  intro qs
  induction qs with
  | nil=>intro _;rfl
  | cons a qs ih=>
   intro ha
   rw[lX,if_pos (ha a (by simp))]
   exact ih fun p hp=>ha p (by simp[hp])
 refine this _ fun p hp=>?_
 obtain⟨i,h1,-⟩:=aiF.1 hp
 exact hm p (List.mem_of_getElem? h1)
theorem ai2{ps:List Pn}(h4:ps.length≤4){c q o:Nat}:stp (dO ps c) q o↔∃i x,ps[i]? =some x∧c.testBit i=false∧x.takes q=true∧o=(x.out q).toNat:=by
 unfold stp
 simp only[Um,Ak]
 constructor
 ·rintro⟨i,⟨h1,h2,h3⟩,rfl⟩
  unfold P9 at h2
  split at h2
  ·rename_i x hx
   exact⟨i,x,hx,h3,h2,by rw[gy,hx]⟩
  ·cases h2
 ·rintro⟨i,x,hx,h3,h2,rfl⟩
  refine⟨i,⟨?_,?_,h3⟩,by rw[gy,hx]⟩
  ·obtain⟨h,-⟩:=List.getElem?_eq_some_iff.1 hx;omega
  ·unfold P9;rw[hx];exact h2
theorem aiW{ps:List Pn}(h4:ps.length≤4){c:Nat}{l:List Int}(hc:∀i,i<4→(c.testBit i=true↔(i:Int)∈l))(q o:Nat):stp (dO (ah7 ps l) 0) q o↔stp (dO ps c) q o:=by
 rw[ai2 (by have:=aiM (ps:=ps) (l:=l);omega),ai2 h4]
 constructor
 ·rintro⟨j,x,hx,-,h1,h2⟩
  obtain⟨i,h3,h5⟩:=aiF.1 (List.mem_of_getElem? hx)
  have hi:i<4:=by obtain⟨h,-⟩:=List.getElem?_eq_some_iff.1 h3;omega
  exact⟨i,x,h3,by rw[←Bool.not_eq_true,hc i hi];exact h5,h1,h2⟩
 ·rintro⟨i,x,hx,h3,h1,h2⟩
  have hi:i<4:=by obtain⟨h,-⟩:=List.getElem?_eq_some_iff.1 hx;omega
  obtain⟨j,hj⟩:=List.getElem?_of_mem (aiF.2 ⟨i,hx,by rw[←hc i hi,h3];simp⟩)
  exact⟨j,x,hj,by simp,h1,h2⟩
end Go.aS

/- Pans shut, as the document has it. Conditions: none; over the given program. -/
namespace Go.aS
set_option maxRecDepth 100000
set_option maxHeartbeats 4000000
theorem ajo(main:Side)(h:Hp)(ps:List Pn)(l:List Int)(vp vl:Value)(hf:Sl h Pn.row vp ps)(hl:Sl h fH vl l)(Du:ps.length≤1000)(hl4:l.length≤1000):dV prog main ahM #[vp,vl] h [] (fun v A=>Os Ag Pn.row v (ah7 ps l) A):=by
 obtain⟨a,cap,rfl⟩:=hf.dA
 obtain⟨a2,cap2,rfl⟩:=hl.dA
 refine dV.aG ah8 rfl (by show 2≤40;decide) [(0,.slice a ps.length cap),(1,.slice a2 l.length cap2)] ⟨rfl,rfl,trivial⟩ ?_
 refine W.seq<|W.region rfl<|agb rfl rfl rfl<|pq<|W.seq<|W.region rfl<|agb rfl rfl rfl<|pq ?_
 refine W.seq<|W.seq<|W.region rfl<|agb rfl rfl rfl<|pq<|W.block ?_
 refine W.Js (fun(i:Nat) (v:Value) (S:ah)=>i≤ps.length∧Os Ag Pn.row v (ail ps l i) S) (fun i v S=>[(6,I i),(5,v),(0,.slice a ps.length cap),(1,.slice a2 l.length cap2)]) (fun i v S=>S) (fun i _ _=>ps.length-i) 0 (.slice none 0 0) [] ⟨Nat.zero_le _,.nil .nil⟩ ⟨rfl,rfl,rfl,rfl,trivial⟩ .refl ?_
 rintro i v S ⟨hi,hS⟩
 refine W.seq<|W.seq<|W.region rfl<|qm rfl rfl rfl<|qm rfl rfl rfl ?_
 refine agW (dM rfl rfl) rfl ?_
 refine agW (fO rfl rfl rfl) rfl ?_
 refine pq ?_
 refine W.bC rfl (fun c12=>?_) (fun c12=>?_)
 ·have hil:i<ps.length:=by omega
  obtain⟨p,hp,-⟩:=has hil
  have hsl:=aiy (ps:=ps) (l:=l) (i:=i)
  refine W.skip<|aA<|W.seq<|W.block<|W.seq<|W.region rfl<|agb rfl rfl rfl<|pq<|W.seq ?_
  refine W.seq<|W.region rfl<|agb rfl rfl rfl<|pq<|W.block ?_
  refine W.loop (σ:=Nat) (fun k=>k≤l.length) (fun k=>[(8,I k),(7,.bool (decide ((i:Int)∈l.take k))),(6,I i),(5,v),(0,.slice a ps.length cap),(1,.slice a2 l.length cap2)]) (fun _=>S) (fun k=>l.length-k) 0 (Nat.zero_le _) ⟨rfl,lk rfl (congrArg Value.bool (by simp)),rfl,rfl,rfl,rfl,trivial⟩ .refl ?_
  rintro k hk
  refine W.seq<|W.seq<|W.region rfl<|qm rfl rfl rfl<|qm rfl rfl rfl ?_
  refine agW (dM rfl rfl) rfl ?_
  refine agW (fO rfl rfl rfl) rfl ?_
  refine pq ?_
  refine W.bC rfl (fun c18=>?_) (fun c18=>?_)
  ·have hkl:k<l.length:=by omega
   obtain⟨x,hx,-⟩:=has hkl
   obtain⟨b2,off2,c2,E2,fz2,hv2,hb2,-,-,hz2⟩:=hl.at hx
   cases hv2
   have hc2:c2[off2+k*1]? =some (I x):=hz2 0 (by decide)
   refine W.skip<|aA<|W.seq<|W.block<|W.region rfl<|qm rfl rfl rfl<|qm rfl rfl rfl ?_
   refine Ops.RV (fun ajf=>?_) (fun ajf=>?_)
   ·refine Ops.no ?_
    refine Ops.no ?_
    refine Ops.no ?_
    refine Ops.no ?_
    refine Ops.no ?_
    refine Ops.no ?_
    refine agW (dG rfl rfl rfl) rfl ?_
    refine agb rfl rfl rfl<|Ops.nil<|dI<|aA<|W.region rfl<|qm rfl rfl rfl ?_
    refine ag1 rfl ?_
    refine agb rfl rfl rfl<|pq ?_
    refine⟨rfl,k+1,hkl,by omega,⟨rfl,lk rfl (congrArg Value.bool ?_),rfl,rfl,rfl,rfl,trivial⟩,.refl⟩
    have e:decide ((i:Int)∈l.take (k+1))=(decide ((i:Int)∈l.take k)|| decide (x=(i:Int))):=by
     rw[←Bool.decide_or]
     refine decide_eq_decide.2 ?_
     rw[List.take_add_one,hx,List.mem_append]
     simp[eq_comm]
    rw[e]
    first | (rw[ajf];rfl) | (rw[Bool.eq_false_iff.2 ajf];rfl) | simp_all
   ·refine oq (aN rfl rfl) rfl (ak rfl rfl rfl) rfl rfl ?_
    refine oq (aN rfl rfl) rfl (ak rfl rfl rfl) rfl rfl ?_
    first | refine oq (G_ rfl rfl rfl) rfl (ak rfl rfl rfl) rfl rfl ?_ | refine oq (o_ rfl rfl rfl) rfl (ak rfl rfl rfl) rfl rfl ?_
    refine oq (iQ rfl rfl) rfl (ak rfl rfl rfl) rfl rfl ?_
    refine oq (aN rfl rfl) rfl (ak rfl rfl rfl) rfl rfl ?_
    refine oq (nD rfl rfl rfl) rfl (ak rfl rfl rfl) rfl rfl ?_
    refine agW (iH rfl rfl rfl) rfl ?_
    refine agb rfl rfl rfl<|Ops.nil<|dI<|aA<|W.region rfl<|qm rfl rfl rfl ?_
    refine ag1 rfl ?_
    refine agb rfl rfl rfl<|pq ?_
    refine⟨rfl,k+1,hkl,by omega,⟨rfl,lk rfl (congrArg Value.bool ?_),rfl,rfl,rfl,rfl,trivial⟩,.refl⟩
    have e:decide ((i:Int)∈l.take (k+1))=(decide ((i:Int)∈l.take k)|| decide (x=(i:Int))):=by
     rw[←Bool.decide_or]
     refine decide_eq_decide.2 ?_
     rw[List.take_add_one,hx,List.mem_append]
     simp[eq_comm]
    rw[e]
    first | (rw[ajf];rfl) | (rw[Bool.eq_false_iff.2 ajf];rfl) | simp_all
  ·obtain rfl:k=l.length:=by omega
   rw[List.take_length]
   have hk1:ail ps l (i+1)=ail ps l i++(if(i:Int)∈l then[]else[p]):=by rw[ail,hp]
   refine W.exit<|bP<|bP<|gG<|aA<|W.seq<|W.region rfl<|qm rfl rfl rfl ?_
   refine agW (xU rfl rfl) rfl ?_
   refine pq ?_
   refine W.cond rfl (fun c31=>?_) (fun c31=>?_)
   ·obtain⟨b,off,c,E,fz,hv,hb,hx1,hy1,hz1⟩:=hf.at hp
    cases hv
    have hx':c.extract (off+i*3) (off+i*3+3)= #[I p.lo,I p.hi,I p.sh]:=hx1
    clear hx1 hz1
    have hn:(i:Int)∉l:=by simpa using c31
    rw[if_neg hn]at hk1
    refine W.region rfl<|qm rfl rfl rfl<|qm rfl rfl rfl<|qm rfl rfl rfl ?_
    refine ag3 rfl ?_
    refine ag2 rfl ?_
    refine Ops.NK (cs:= #[I p.lo,I p.hi,I p.sh]) (fun akW=>?_) rfl (hf:=by kernel_rfl)
    refine oe rfl wn rfl rfl (iW (row:=Pn.row) (l':=[p]) rfl rfl rfl hS (.tail .all) (fun h2 _ hl=>Sl.mk (hl akW _ (.head _)) rfl (Part.all (Pn.row p))) (by simp;omega) (by decide) rfl (fun v' S' hS'=>?_))
    refine agb rfl rfl rfl<|Ops.nil<|dI<|aA<|W.region rfl<|qm rfl rfl rfl ?_
    refine ag1 rfl ?_
    refine agb rfl rfl rfl<|pq ?_
    exact⟨rfl,i+1,v',S',⟨hil,by rw[hk1];exact hS'⟩,by omega,⟨rfl,rfl,rfl,rfl,trivial⟩,.skip rfl .refl⟩
   ·refine W.skip<|dI<|aA<|W.region rfl<|qm rfl rfl rfl ?_
    refine ag1 rfl ?_
    refine agb rfl rfl rfl<|pq ?_
    have hn:(i:Int)∈l:=by simpa using c31
    rw[if_pos hn,List.append_nil]at hk1
    exact⟨rfl,i+1,v,S,⟨hil,by rw[hk1];exact hS⟩,by omega,⟨rfl,rfl,rfl,rfl,trivial⟩,.refl⟩
 ·refine W.exit<|bP<|bP<|gG<|aA<|W.seq<|W.region rfl<|qm rfl rfl rfl<|agb rfl rfl rfl<|Ops.nil ?_
  refine aA<|W.ret ?_
  obtain rfl:i=ps.length:=by omega
  exact mg (vs:=[v]) hS
end Go.aS

/- SyrupForced. Conditions: none; over the given program. -/
namespace Go.aS
set_option maxRecDepth 100000
set_option maxHeartbeats 4000000
end Go.aS

/- All ascending lists of so many numbers, as a program makes them. Conditions: none; no program in sight. -/
namespace Go.aS
set_option linter.unusedVariables false
set_option maxRecDepth 100000
def aiT(g:List Int)(i:Nat):Int:=if 0<i then g.getD (i-1) 0+1 else 0
def rwC(g:List Int)(lo:Int)(m:Nat):List (List Int):=(List.range m).map fun(j:Nat)=>g++[lo+(j:Int)]
def aju(n k i:Nat)(lo:Int):Nat:=((n:Int)-k+i+1-lo).toNat
def aja(n k i:Nat)(H:List (List Int))(x:Nat):List (List Int):=(H.take x).flatMap fun g=>rwC g (aiT g i) (aju n k i (aiT g i))
def chZ(n k:Nat):Nat→List (List Int)
 | 0=>[[]]
 | i+1=>aja n k i (chZ n k i) (chZ n k i).length
theorem ajM{g:List Int}{lo:Int}{m:Nat}:rwC g lo (m+1)=rwC g lo m++[g++[lo+(m:Int)]]:=by simp[rwC,List.range_succ]
theorem ajD{g:List Int}{lo:Int}{m:Nat}:(rwC g lo m).length=m:=by simp[rwC]
theorem ajx{n k i x:Nat}{H:List (List Int)}{g:List Int}(h:H[x]? =some g):aja n k i H (x+1)=aja n k i H x++rwC g (aiT g i) (aju n k i (aiT g i)):=by
 rw[aja,List.take_add_one,h,List.flatMap_append];simp[aja]
theorem ajy{n k i:Nat}{H:List (List Int)}(hH:∀g∈H,aju n k i (aiT g i)≤5):∀{x:Nat},x≤H.length→(aja n k i H x).length≤5*x
 | 0,_=>by simp[aja]
 | x+1,h=>by
  have hx:x<H.length:=h
  rw[ajx (List.getElem?_eq_getElem hx),List.length_append,ajD]
  have:=ajy hH (x:=x) (by omega)
  have:=hH H[x] (List.getElem_mem hx)
  omega
def okC(n k i:Nat):Bool:=decide ((chZ n k i).length≤10)&&(chZ n k i).all fun g=>decide (g.length=i)&&g.all fun y=>decide (0≤y)&&decide (y≤4)
theorem ajY:((List.range 5).all fun n=>(List.range (n+1)).all fun k=>(List.range (k+1)).all fun i=>okC n k i)=true:=by kernel_rfl
theorem ajN{n k i:Nat}(hn:n≤4)(hk:k≤n)(hi:i≤k):(chZ n k i).length≤10∧∀g∈chZ n k i,g.length=i∧∀y∈g,0≤y∧y≤4:=by
 have h1:=List.all_eq_true.1 ajY n (List.mem_range.2 (by omega))
 have h2:=List.all_eq_true.1 h1 k (List.mem_range.2 (by omega))
 have h3:=List.all_eq_true.1 h2 i (List.mem_range.2 (by omega))
 simp only[okC,Bool.and_eq_true,decide_eq_true_eq,List.all_eq_true]at h3
 exact h3
theorem ajE{g:List Int}{i:Nat}(h:∀y∈g,0≤y∧y≤4):0≤aiT g i∧aiT g i≤5:=by
 unfold aiT
 split
 ·rw[List.getD_eq_getElem?_getD]
  cases hg:g[i-1]? with
  | none=>simp
  | some y=>have:=h y (List.mem_of_getElem? hg);simp only[Option.getD_some];omega
 ·omega
theorem ajF{g:List Int}{n k i:Nat}(hn:n≤4)(hk:k≤n)(hi:i≤k)(h:∀y∈g,0≤y∧y≤4):aju n k i (aiT g i)≤5:=by
 have:=ajE (i:=i) h
 unfold aju;omega
def chS(n k:Nat):List Nat:=ae3.filter fun s=>decide (s<2 ^ n)&&decide ((JL s).length=k)
def chT(n k:Nat):Bool:=decide (chZ n k k=(chS n k).map fun s=>zs (JL s))
theorem ajZ:((List.range 5).all fun n=>(List.range (n+1)).all fun k=>chT n k)=true:=by kernel_rfl
theorem ajO{n k:Nat}(hn:n≤4)(hk:k≤n):chZ n k k=(chS n k).map fun s=>zs (JL s):=by
 have h1:=List.all_eq_true.1 ajZ n (List.mem_range.2 (by omega))
 have h2:=List.all_eq_true.1 h1 k (List.mem_range.2 (by omega))
 exact of_decide_eq_true h2
def alA(n:Nat):Bool:=decide (ae3.filter (fun s=>decide (s≤2 ^ n-1))=(List.range (n+1)).flatMap (chS n))
theorem ajP:((List.range 5).all alA)=true:=by kernel_rfl
theorem ajQ{n:Nat}(hn:n≤4):ae3.filter (fun s=>decide (s≤2 ^ n-1))=(List.range (n+1)).flatMap (chS n):=
 of_decide_eq_true (List.all_eq_true.1 ajP n (List.mem_range.2 (by omega)))
theorem ajI{n k:Nat}(h:k≤n):∃r,List.range (n+1)=List.range k++k::r:=by
 refine⟨(List.range (n-k)).map (k+1+ ·),?_⟩
 have:n+1=k+((n-k)+1):=by omega
 rw[this,List.range_add,List.range_succ_eq_map,List.map_cons,List.map_map]
 simp only[Nat.add_zero]
 congr 2
 refine List.map_congr_left fun x _=>?_
 simp only[Function.comp];omega
theorem ajJ{n k x s:Nat}{E:Nat→Bool}(hn:n≤4)(hk:k≤n)(hx:(chS n k)[x]? =some s)(hE:E s=true)(h1:∀j,j<k→∀u∈chS n j,E u=false)(h2:∀u∈(chS n k).take x,E u=false):
  ae3.find? (fun s=>decide (s≤2 ^ n-1)&&E s)=some s:=by
 have e:ae3.find? (fun s=>decide (s≤2 ^ n-1)&&E s)=(ae3.filter fun s=>decide (s≤2 ^ n-1)).find? E:=by
  rw[List.find?_filter]
  congr 1;funext a;rw[Bool.eq_iff_iff];simp
 obtain⟨r,hr⟩:=ajI hk
 obtain⟨hxl,hxs⟩:=List.getElem?_eq_some_iff.1 hx
 have hcs:chS n k=(chS n k).take x++s::(chS n k).drop (x+1):=by
  rw[←hxs,List.getElem_cons_drop,List.take_append_drop]
 rw[e,ajQ hn,hr,List.flatMap_append,List.flatMap_cons,List.find?_eq_some_iff_append]
 refine⟨hE,(List.range k).flatMap (chS n)++(chS n k).take x,(chS n k).drop (x+1)++r.flatMap (chS n),?_,?_⟩
 ·conv=>lhs;rw[hcs]
  simp[List.append_assoc]
 ·intro u hu
  rcases List.mem_append.1 hu with hu | hu
  ·obtain⟨j,hj,hu⟩:=List.mem_flatMap.1 hu
   rw[h1 j (List.mem_range.1 hj) u hu];rfl
  ·rw[h2 u hu];rfl
end Go.aS

/- All ascending lists of so many numbers. Conditions: none; over the given program. -/
namespace Go.aS
set_option maxRecDepth 100000
set_option maxHeartbeats 4000000
theorem UG.os{α:Type}{row:α→List Value}{w:Nat}[Rw row w]{E:TypeId}{vs:List Sv}{ls:List (List α)}{A:ah}(h:UG E row vs ls A):∀{k:Nat} {s:Sv} {l:List α},vs[k]? =some s→ls[k]? =some l→∃B,Os E row s.val l B∧∀p∈B,p∈A:=by
 induction h with
 | nil=>intro k s l hs;simp at hs
 | cons h1 _ ih=>
  intro k s l hs hl
  rcases k with _ | k
  ·simp at hs hl;subst hs hl
   exact⟨_,h1,fun p hp=>List.mem_append_left _ hp⟩
  ·simp at hs hl
   obtain⟨B,h2,h3⟩:=ih hs hl
   exact⟨B,h2,fun p hp=>List.mem_append_right _ (h3 p hp)⟩
theorem ajK(main:Side)(h:Hp)(n k:Nat)(hn:n≤4)(hk:k≤n):dV prog main ahu #[I n,I k] h [] (fun v A=>∃O us B,Os nS ags v us O∧UG dL fH us (chZ n k k) B∧Sb (O++B) A):=by
 refine dV.aG ahV rfl (by show 2≤57;decide) [(0,I n),(1,I k)] ⟨rfl,rfl,trivial⟩ ?_
 refine W.seq<|W.region rfl<|agb rfl rfl rfl<|pq<|W.seq<|W.region rfl ?_
 refine Ops.NK (cs:= #[.slice none 0 0]) (fun KY=>?_) rfl
 refine agb rfl rfl rfl<|pq<|W.seq<|W.seq<|W.region rfl<|agb rfl rfl rfl<|pq<|W.block ?_
 have hO0:Os nS ags (.slice (some ⟨KY,0,none⟩) 1 1) [(⟨none,0,0⟩:Sv)] [(KY,.cells #[.slice none 0 0] nS (0,0))]:=.inr ⟨KY,_,1,[],rfl,rfl,rfl,Nat.le_refl _,Part.all _,.nil⟩
 have hB0:UG dL fH [(⟨none,0,0⟩:Sv)] (chZ n k 0) []:=by
  have:=UG.cons (E:=dL) (row:=fH) (s:=(⟨none,0,0⟩:Sv)) (l:=[]) (.nil .nil) .nil
  exact this
 refine W.loop (σ:=Nat×List Sv×Option Addr×Nat×ah×ah) (fun q=>q.1≤k∧Os nS ags (.slice q.2.2.1 q.2.1.length q.2.2.2.1) q.2.1 q.2.2.2.2.1∧UG dL fH q.2.1 (chZ n k q.1) q.2.2.2.2.2) (fun q=>[(6,I q.1),(5,.slice q.2.2.1 q.2.1.length q.2.2.2.1),(0,I n),(1,I k)]) (fun q=>q.2.2.2.2.1++q.2.2.2.2.2) (fun q=>k-q.1) (0,[⟨none,0,0⟩],some ⟨KY,0,none⟩,1,[(KY,.cells #[.slice none 0 0] nS (0,0))],[]) ⟨Nat.zero_le _,hO0,hB0⟩ ⟨rfl,rfl,rfl,rfl,trivial⟩ .refl ?_
 rintro⟨i,us,sa,sc,O,B⟩ ⟨hi,hO,hB⟩
 dsimp only at*
 refine W.seq<|W.seq<|W.region rfl<|qm rfl rfl rfl<|qm rfl rfl rfl ?_
 refine agW (fO rfl rfl rfl) rfl ?_
 refine pq ?_
 refine W.bC rfl (fun c14=>?_) (fun c14=>?_)
 ·have hi1:i<k:=by omega
  obtain⟨hHl,hat⟩:=ajN (i:=i) hn hk hi
  have hul:=hB.len
  have hnx:chZ n k (i+1)=aja n k i (chZ n k i) (chZ n k i).length:=rfl
  generalize chZ n k i=H at*
  refine W.skip<|aA<|W.seq<|W.block<|W.seq<|W.region rfl<|agb rfl rfl rfl<|pq<|W.seq ?_
  refine W.seq<|W.region rfl<|agb rfl rfl rfl<|pq<|W.block ?_
  refine W.loop (σ:=Nat×List Sv×Option Addr×Nat×ah×ah) (fun q=>q.1≤us.length∧Os nS ags (.slice q.2.2.1 q.2.1.length q.2.2.2.1) q.2.1 q.2.2.2.2.1∧UG dL fH q.2.1 (aja n k i H q.1) q.2.2.2.2.2) (fun q=>[(8,I q.1),(7,.slice q.2.2.1 q.2.1.length q.2.2.2.1),(6,I i),(5,.slice sa us.length sc),(0,I n),(1,I k)]) (fun q=>(O++B)++(q.2.2.2.2.1++q.2.2.2.2.2)) (fun q=>us.length-q.1) (0,[],none,0,[],[]) ⟨Nat.zero_le _,.nil .nil,.nil⟩ ⟨rfl,rfl,rfl,rfl,rfl,rfl,trivial⟩ (by simp only[List.append_nil];exact .refl) ?_
  rintro⟨x,ns,na,nc,N,C⟩ ⟨hx,hN,hC⟩
  dsimp only at*
  refine W.seq<|W.seq<|W.region rfl<|qm rfl rfl rfl<|qm rfl rfl rfl ?_
  refine agW (dM rfl rfl) rfl ?_
  refine agW (fO rfl rfl rfl) rfl ?_
  refine pq ?_
  refine W.bC rfl (fun c20=>?_) (fun c20=>?_)
  ·have hx1:x<us.length:=by omega
   obtain⟨g,hg,-⟩:=has (show x<H.length by omega)
   obtain⟨s,hs0,-⟩:=has hx1
   obtain⟨hgl,hgy⟩:=hat g (List.mem_of_getElem? hg)
   have hss:=ajx (n:=n) (k:=k) (i:=i) hg
   have hlow:=ajE (i:=i) hgy
   have hcn:=ajF hn hk (by omega:i≤k) hgy
   have hsl:(aja n k i H x).length≤5*x:=ajy (fun g' hg'=>ajF hn hk (by omega) (hat g' hg').2) (by omega)
   obtain⟨βo,co',Jo,hsa,hOe,-,-,-,hPo,-⟩:=hO.open (by omega)
   subst hsa
   have hcell:co'[0+x*1+0]? =some (.slice s.a s.n s.cap):=hPo.Bo hs0 0 (by decide)
   refine W.skip<|aA<|W.seq<|W.block<|W.seq<|W.region rfl<|agb rfl rfl rfl<|pq<|W.seq ?_
   refine W.cut [(9,I (aiT g i)),(8,I x),(7,.slice na ns.length nc),(6,I i),(5,.slice (some ⟨βo,0,none⟩) us.length sc),(0,I n),(1,I k)] ((O++B)++(N++C)) ?_ ?_
   ·refine W.seq<|W.region rfl<|qm rfl rfl rfl ?_
    refine agW (rC rfl rfl rfl) rfl ?_
    refine pq ?_
    refine W.bC rfl (fun c24=>?_) (fun c24=>?_)
    ·refine W.region rfl<|qm rfl rfl rfl<|qm rfl rfl rfl ?_
     refine ag3 rfl ?_
     have hi0:0<i:=by omega
     obtain⟨y,hy,-⟩:=has (show i-1<g.length by omega)
     have hyr:=hgy y (List.mem_of_getElem? hy)
     have hlc:aiT g i=y+1:=by rw[aiT,if_pos hi0,List.getD_eq_getElem?_getD,hy];rfl
     obtain⟨A9,hS9,hm9⟩:=hB.os hs0 hg
     obtain⟨a9,c9,he9⟩:=hS9.dA
     obtain⟨s1,s2,s3⟩:=s
     cases he9
     obtain⟨Uw,co9,J9,alC,alD,-,-,-,hP9,-⟩:=hS9.open (by omega)
     subst alC
     have hlt:i-1<(⟨some ⟨Uw,0,none⟩,g.length,s3⟩:Sv).n:=by show i-1<g.length;omega
     have hc9:co9[0+(i-1)*1+0]? =some (I y):=hP9.Bo hy 0 (by decide)
     refine agW (iQ rfl rfl (.inr (fun _ e=>by subst e;exact List.mem_append_left _ (List.mem_append_left _ (by rw[hOe];exact .head _)))) hcell) rfl ?_
     refine qm rfl rfl rfl ?_
     refine KU (acL rfl rfl rfl) (congrArg (Value.int .i64) (show(i:Int)-1=((i-1:Nat):Int) by omega)) rfl wn rfl rfl ?_
     refine ag3 rfl ?_
     refine oq (iQ rfl rfl (.inr (fun _ e=>by subst e;exact List.mem_append_left _ (List.mem_append_right _ (hm9 _ (by rw[alD];exact .head _))))) hc9) rfl wn rfl rfl ?_
     refine ag1 rfl ?_
     refine agb rfl rfl rfl<|Ops.nil ?_
     exact⟨rfl,rfl,⟨lk rfl (congrArg (Value.int .i64) hlc.symm),rfl,rfl,rfl,rfl,rfl,rfl,trivial⟩,.refl⟩
    ·refine W.skip ?_
     exact⟨rfl,rfl,⟨lk rfl (congrArg (Value.int .i64) (show(0:Int)=aiT g i by rw[aiT,if_neg (by omega)])),rfl,rfl,rfl,rfl,rfl,rfl,trivial⟩,.refl⟩
   ·refine W.seq<|W.region rfl<|qm rfl rfl rfl<|agb rfl rfl rfl<|pq<|W.block ?_
    refine W.loop (σ:=Nat×List Sv×Option Addr×Nat×ah×ah) (fun q=>q.1≤aju n k i (aiT g i)∧Os nS ags (.slice q.2.2.1 q.2.1.length q.2.2.2.1) q.2.1 q.2.2.2.2.1∧UG dL fH q.2.1 (aja n k i H x++rwC g (aiT g i) q.1) q.2.2.2.2.2) (fun q=>[(10,I (aiT g i+(q.1:Int))),(8,I x),(7,.slice q.2.2.1 q.2.1.length q.2.2.2.1),(6,I i),(5,.slice (some ⟨βo,0,none⟩) us.length sc),(0,I n),(1,I k)]) (fun q=>(O++B)++(q.2.2.2.2.1++q.2.2.2.2.2)) (fun q=>aju n k i (aiT g i)-q.1) (0,ns,na,nc,N,C) ⟨Nat.zero_le _,hN,by simpa[rwC]using hC⟩ ⟨lk rfl (show I _=I _ by congr 1;omega),rfl,rfl,rfl,rfl,rfl,rfl,trivial⟩ .refl ?_
    clear hN hC
    rintro⟨j,ns,na,nc,N,C⟩ ⟨hj,hN,hC⟩
    dsimp only at*
    refine W.seq<|W.seq<|W.region rfl<|qm rfl rfl rfl<|qm rfl rfl rfl<|qm rfl rfl rfl ?_
    refine ag5 rfl ?_
    refine qm rfl rfl rfl ?_
    refine ag1 rfl ?_
    refine agW (Lr rfl rfl rfl) rfl ?_
    refine pq ?_
    refine W.bC rfl (fun c41=>?_) (fun c41=>?_)
    ·have hj1:j<aju n k i (aiT g i):=by unfold aju;omega
     have hnl:ns.length≤100:=by
      rw[hC.len,List.length_append,ajD];omega
     refine W.skip<|aA<|W.seq<|W.block<|W.region rfl<|qm rfl rfl rfl<|qm rfl rfl rfl<|qm rfl rfl rfl ?_
     refine ag3 rfl ?_
     refine agW (iQ rfl rfl (.inr (fun _ e=>by subst e;exact List.mem_append_left _ (List.mem_append_left _ (by rw[hOe];exact .head _)))) hcell) rfl ?_
     refine c0 (fun h' hE hL=>af0 _ h' g s.val (hB.sl (fun b o hb=>hL b o (List.mem_append_left _ (List.mem_append_right _ hb))) hs0 hg) (by omega)) (fun v A' hv=>?_)
     obtain⟨S,hS,hsb⟩:=hv
     refine Ops.sb (hsb.app .refl) ?_
     refine qm rfl rfl rfl ?_
     refine Ops.NK (cs:= #[I (aiT g i+(j:Int))]) (fun ake=>?_) rfl
     refine oe rfl wn rfl rfl (iW (row:=fH) (l':=[aiT g i+(j:Int)]) rfl rfl rfl hS (.tail .head) (fun h2 _ hl=>Sl.mk (hl ake _ (.head _)) rfl (Part.all [I (aiT g i+(j:Int))])) (by simp;omega) (by decide) rfl (fun v2 S2 hS2=>?_))
     obtain⟨s2,rfl⟩:=Sv.eta hS2
     refine Ops.NK (cs:= #[.slice s2.a s2.n s2.cap]) (fun akf=>?_) rfl
     refine oe rfl wn rfl rfl (iW (row:=ags) (l':=[s2]) rfl rfl rfl hN (.tail (.tail (.app (.app .head)))) (fun h2 _ hl=>Sl.mk (hl akf _ (.head _)) rfl (Part.all (ags s2))) (by simp;omega) (by decide) rfl (fun v3 N3 hN3=>?_))
     obtain⟨na3,nc3,rfl⟩:=hN3.dA
     refine agb rfl rfl rfl<|Ops.nil<|dI<|aA<|W.region rfl<|qm rfl rfl rfl ?_
     refine ag1 rfl ?_
     refine agb rfl rfl rfl<|pq ?_
     refine⟨rfl,(j+1,ns++[s2],na3,nc3,N3,C++S2),⟨hj1,hN3,by dsimp only;rw[ajM,←List.append_assoc];exact hC.snoc hS2⟩,by dsimp only;omega,⟨lk rfl (show I _=I _ by congr 1;omega),rfl,rfl,rfl,rfl,rfl,rfl,trivial⟩,?_⟩
     dsimp only
     show Sb _ ((akf,.cells #[.slice s2.a s2.n s2.cap] nS (0,0))::(ake,.cells #[I (aiT g i+(j:Int))] dL (0,0))::_)
     refine⟨[(akf,.cells #[.slice s2.a s2.n s2.cap] nS (0,0)),(ake,.cells #[I (aiT g i+(j:Int))] dL (0,0))],agQ fun y=>?_,.cons rfl (.cons rfl .nil)⟩
     simp only[List.count_append,List.count_cons,List.count_nil];omega
    ·refine W.exit<|bP<|bP<|gG<|dI<|aA<|W.region rfl<|qm rfl rfl rfl ?_
     refine ag1 rfl ?_
     refine agb rfl rfl rfl<|pq ?_
     obtain rfl:j=aju n k i (aiT g i):=by
      have:¬j<aju n k i (aiT g i):=by unfold aju;omega
      omega
     exact⟨rfl,(x+1,ns,na,nc,N,C),⟨hx1,hN,by dsimp only;rw[hss];exact hC⟩,by dsimp only;omega,⟨rfl,rfl,rfl,rfl,rfl,rfl,trivial⟩,.refl⟩
  ·refine W.exit<|bP<|bP<|gG<|aA<|W.region rfl<|qm rfl rfl rfl<|agb rfl rfl rfl<|Ops.nil<|dI ?_
   refine aA<|W.region rfl<|qm rfl rfl rfl ?_
   refine ag1 rfl ?_
   refine agb rfl rfl rfl<|pq ?_
   obtain rfl:x=us.length:=by omega
   exact⟨rfl,(i+1,ns,na,nc,N,C),⟨hi1,hN,by dsimp only;rw[hnx,←hul];exact hC⟩,by dsimp only;omega,⟨rfl,rfl,rfl,rfl,trivial⟩,.left .refl (hO.shut.app hB.shut)⟩
 ·refine W.exit<|bP<|bP<|gG<|aA<|W.seq<|W.region rfl<|qm rfl rfl rfl<|agb rfl rfl rfl<|Ops.nil ?_
  refine aA<|W.ret ?_
  obtain rfl:i=k:=by omega
  exact mg (vs:=[_]) ⟨O,us,B,hO,hB,.refl⟩
end Go.aS

/- SyrupClosed. Conditions: none; over the given program. -/
namespace Go.aS
set_option maxRecDepth 100000
set_option maxHeartbeats 4000000
theorem ajC{ps:List Pn}(h4:ps.length≤4){s:Nat}(hs:s<16):CB ps s=decide ((qsL fun k=>dD (dO (ah7 ps (zs (JL s))) 0) 13 k)=[]):=by
 have hc:∀i,i<4→(s.testBit i=true↔(i:Int)∈zs (JL s)):=by
  intro i hi
  simp only[zs,JL,List.mem_map,List.mem_filter,List.mem_range]
  constructor
  ·exact fun h=>⟨i,⟨hi,h⟩,rfl⟩
  ·rintro⟨j,⟨-,h⟩,e⟩
   obtain rfl:j=i:=by omega
   exact h
 rw[Bool.eq_iff_iff,decide_eq_true_iff,CB,List.all_eq_true,List.eq_nil_iff_forall_not_mem]
 simp only[afm,ajH (aiW h4 hc),List.mem_range,Bool.not_eq_true',not_and,Bool.not_eq_true]
theorem ajR{ps:List Pn}(h4:ps.length≤4):CB ps (2 ^ ps.length-1)=true:=by
 refine List.all_eq_true.2 fun k _=>?_
 rw[Bool.not_eq_true',←Bool.not_eq_true,JJ]
 rintro⟨v,e,h1,h2⟩
 rcases v with _ | ⟨p,r⟩
 ·cases h1
 ·obtain⟨o,h3,-⟩:=h2
  obtain⟨i,x,hx,hb,-⟩:=(ai2 h4).1 ⟨p,h3⟩
  obtain⟨hi,-⟩:=List.getElem?_eq_some_iff.1 hx
  rw[Nat.testBit_two_pow_sub_one]at hb
  simp at hb;omega
theorem ajA{ps:List Pn}(h4:ps.length≤4):∃s,s<16∧CB ps s=true∧Oo ps=JL s∧ae3.find? (fun s=>decide (s≤2 ^ ps.length-1)&&CB ps s)=some s:=by
 have hall:2 ^ ps.length-1<16:=ab2 h4
 have:=aia (l:=(List.range (2 ^ ps.length-1)).filter (CB ps)) hall (ajR h4) (fun s=>by rw[List.mem_filter,List.mem_range])
 refine⟨_,?_,?_,rfl,this⟩
 ·have h1:=List.find?_some this
  simp only[Bool.and_eq_true,decide_eq_true_eq]at h1
  omega
 ·have h1:=List.find?_some this
  simp only[Bool.and_eq_true]at h1
  exact h1.2
theorem ajv(main:Side)(hS:∀S,main.ok S→∃Fin,S=Mo prog Fin)(hmb:main.b=true)(h:Hp)(nums:List Int)(lv:Value)(Eg:TypeId)(zg:Nat×Nat)(hl:Sl h fH lv nums)(hg:h 0=some (.cells #[Ur qM] Eg zg))(z0:h.z 0):QE prog main aha #[lv] h (.bool true):=by
 refine QE.aG ahK rfl (by show 1≤63;decide) [(0,lv)] ⟨rfl,trivial⟩ ?_
 refine W.seq<|W.region rfl<|agb rfl rfl rfl<|pq<|W.seq<|W.region rfl<|qm rfl rfl rfl ?_
 refine c0 (fun h' hE hL=>VQ _ h' nums lv (hl.ext hE)) (fun v A' hv=>?_)
 obtain⟨b,s0,rfl,rfl⟩:=hv
 refine cg (A:=[(b,wF lv 0 s0)]) .head (fun h' hE hL=>VT _ h' nums lv b 0 s0 4 (hl.ext hE) (by omega) (by omega)) (fun v A' hv=>?_)
 obtain⟨ps,Sp,k',s',hO,⟨hpl,hck⟩,hk',hsb⟩:=hv
 refine Ops.sb (F':=Sp++[]) (by simpa using(Sb.skip rfl Sb.refl).trans hsb) ?_
 have hps:=aaD hpl hck
 have hok:=iP.yB hps
 have h4:=hok.len
 refine agb rfl rfl rfl<|pq ?_
 refine JU hO (fun hz hEz hsl hzs=>?_)
 obtain⟨a,cap,rfl⟩:=hsl.dA
 have hgz:=hEz.1 _ _ hg
 refine W.seq<|W.region rfl<|qm rfl rfl rfl ?_
 refine c0 (fun h' hE hL=>YB _ h' ps _ hS hmb (hsl.ext hE) (hzs.ext hE)) (fun v A' hv=>?_)
 obtain⟨w,rfl,hw⟩:=hv
 rw[if_pos hps]at hw
 rw[hps]
 obtain⟨sb,al4,al5,alE,akg⟩:=ajA h4
 rw[alE]at hw
 refine qm rfl rfl rfl<|oq (bD rfl rfl rfl) rfl wn rfl rfl<|oq (bD rfl rfl rfl) rfl wn rfl rfl<|agb rfl rfl rfl<|agb rfl rfl rfl<|pq<|W.seq ?_
 refine JU hw (fun hz2 agM hsl2 _=>?_)
 obtain⟨aw,cw,rfl⟩:=hsl2.dA
 rw[kT]at hsl2⊢
 replace hgz:=agM.1 _ _ hgz
 replace hsl:=hsl.ext agM
 have aiI:(JL sb).length≤4:=Nat.le_trans (List.length_filter_le ..) (by simp)
 refine W.seq<|W.region rfl<|agb rfl rfl rfl<|pq<|W.block ?_
 refine W.loop (σ:=Nat) (fun k=>k≤ps.length+1∧∀j,j<k→∀u∈chS ps.length j,CB ps u=false) (fun k=>[(6,I k),(5,I 0),(4,.slice aw (JL sb).length cw),(3,.slice a ps.length cap)]) (fun _=>[]) (fun k=>ps.length+1-k) 0 ⟨Nat.zero_le _,fun j hj=>by omega⟩ ⟨rfl,rfl,rfl,rfl,trivial⟩ TW ?_
 rintro k ⟨hk,hnk⟩
 refine W.seq<|W.seq<|W.region rfl<|qm rfl rfl rfl<|qm rfl rfl rfl ?_
 refine agW (dM rfl rfl) rfl ?_
 refine agW (Lr rfl rfl rfl) rfl ?_
 refine pq ?_
 refine W.bC rfl (fun Qc=>?_) (fun Qc=>?_)
 ·have hk1:k≤ps.length:=by omega
  refine W.skip<|aA<|W.seq<|W.block<|W.seq<|W.region rfl<|qm rfl rfl rfl ?_
  refine agW (dM rfl rfl) rfl ?_
  refine qm rfl rfl rfl ?_
  refine c0 (fun h' hE hL=>ajK _ h' ps.length k h4 hk1) (fun v2 A' hv=>?_)
  obtain⟨O,us,B,hO2,hB,af4⟩:=hv
  refine Ops.sb (F':=O++(B++[])) (by simpa using af4) ?_
  refine agb rfl rfl rfl<|pq ?_
  obtain⟨sa,sc,rfl⟩:=hO2.dA
  refine JU hO2 (fun hz3 hE3 ahe hzO=>?_)
  refine agG hB (fun hz4 hE4 hslB=>?_)
  replace ahe:=ahe.ext hE4
  have ai7:=hE4.1 _ _ (hE3.1 _ _ hgz)
  have akZ:=hsl.ext (hE3.trans hE4)
  have aiJ:=hsl2.ext (hE3.trans hE4)
  have hul:=hB.len
  have hub:=(ajN (i:=k) h4 hk1 (Nat.le_refl _)).1
  rw[ajO h4 hk1]at hul hub
  rw[List.length_map]at hul hub
  refine W.seq<|W.region rfl<|agb rfl rfl rfl<|pq<|W.block ?_
  refine W.loop (σ:=Nat) (fun i=>i≤us.length∧∀u∈(chS ps.length k).take i,CB ps u=false) (fun i=>[(8,I i),(7,.slice sa us.length sc),(6,I k),(5,I 0),(4,.slice aw (JL sb).length cw),(3,.slice a ps.length cap)]) (fun _=>[]) (fun i=>us.length-i) 0 ⟨Nat.zero_le _,by simp⟩ ⟨rfl,rfl,rfl,rfl,rfl,rfl,trivial⟩ TW ?_
  rintro i ⟨hi,hno⟩
  refine W.seq<|W.seq<|W.region rfl<|qm rfl rfl rfl<|qm rfl rfl rfl ?_
  refine agW (dM rfl rfl) rfl ?_
  refine agW (fO rfl rfl rfl) rfl ?_
  refine pq ?_
  refine W.bC rfl (fun c32=>?_) (fun c32=>?_)
  ·have hil:i<us.length:=by omega
   obtain⟨u,hu,-⟩:=has (show i<(chS ps.length k).length by omega)
   obtain⟨s,hs0,-⟩:=has hil
   have hsu:=(hslB i s (zs (JL u)) hs0 (by rw[ajO h4 hk1,List.getElem?_map,hu];rfl)).1
   have alG:u<16:=by
    have:=(List.mem_filter.1 (List.mem_of_getElem? hu)).1
    revert this;exact(by decide:∀u∈ae3,u<16) u
   have al6:(JL u).length≤4:=Nat.le_trans (List.length_filter_le ..) (by simp)
   have hgu:=ajC h4 alG
   obtain⟨bo,aiK,co,Eo,fzo,hvo,hbo,-,-,hzo⟩:=ahe.at hs0
   cases hvo
   have hco:co[aiK+i*1]? =some (.slice s.a s.n s.cap):=hzo 0 (by decide)
   refine W.skip<|aA<|W.seq<|W.block<|W.seq<|W.region rfl<|qm rfl rfl rfl<|qm rfl rfl rfl<|qm rfl rfl rfl ?_
   refine ag3 rfl ?_
   refine agX rfl ?_
   refine c0 (fun h' hE hL=>ajo _ h' ps (zs (JL u)) _ s.val (akZ.ext hE) (hsu.ext hE) (by omega) (by rw[kT];omega)) (fun v3 A3 hO3=>?_)
   refine c0 (fun h' hE hL=>afo _ h' (ah7 ps (zs (JL u))) _ (hO3.sl (fun b o hb=>hL b o (List.mem_append_left _ hb)))) (fun v A' hv=>?_)
   obtain⟨w,S,rfl,hS1,Oh⟩:=hv
   rw[ae4 (ajn hps)]at hS1⊢
   dsimp only at hS1
   obtain⟨a5,c5,rfl⟩:=hS1.dA
   rw[kT]
   refine Ops.sb (F':=[]) (.nil ((Sb.trans (.nil hS1.shut) Oh).shut.app (hO3.shut.app .nil))) ?_
   have RF:(qsL fun q=>dD (dO (ah7 ps (zs (JL u))) 0) 13 q).length≤13:=afn
   refine qm rfl rfl rfl<|oq (bD rfl rfl rfl) rfl wn rfl rfl<|oq (bD rfl rfl rfl) rfl wn rfl rfl<|agb rfl rfl rfl<|agb rfl rfl rfl<|pq<|W.seq<|W.seq<|W.region rfl ?_
   refine qm rfl rfl rfl ?_
   refine agW (nG rfl rfl rfl) rfl ?_
   refine pq ?_
   refine W.bC rfl (fun c46=>?_) (fun c46=>?_)
   ·refine W.seq<|W.region rfl<|agb rfl rfl rfl<|pq<|W.ret<|aY<|cZ<|aY<|aY ?_
    refine cZ<|cZ<|aY<|aY<|cZ<|aY ?_
    exact absurd rfl c46
   ·refine W.skip<|aA<|W.seq<|W.region rfl<|qm rfl rfl rfl ?_
    refine agW (dM rfl rfl) rfl ?_
    refine agW (nD rfl rfl rfl) rfl ?_
    refine pq ?_
    refine W.bC rfl (fun c49=>?_) (fun c49=>?_)
    ·have hG:CB ps u=true:=by
      rw[hgu,decide_eq_true_iff]
      exact List.length_eq_zero_iff.1 (by omega)
     have hfs:=ajJ h4 hk1 hu hG hnk hno
     obtain rfl:sb=u:=Option.some.inj (akg.symm.trans hfs)
     refine W.seq<|W.region rfl<|qm rfl rfl rfl ?_
     refine agW (nD rfl rfl rfl) rfl ?_
     refine qm rfl rfl rfl ?_
     refine Ops.ask (fun Y6=>?_) (fun Y6=>?_)
     ·refine oq (aN rfl rfl) rfl (ak rfl rfl rfl) rfl rfl ?_
      refine oq (aN rfl rfl) rfl (ak rfl rfl rfl) rfl rfl ?_
      refine oq (aN rfl rfl) rfl (ak rfl rfl rfl) rfl rfl ?_
      first | refine oq (G_ rfl rfl rfl) rfl (ak rfl rfl rfl) rfl rfl ?_ | refine oq (o_ rfl rfl rfl) rfl (ak rfl rfl rfl) rfl rfl ?_
      refine oq (iQ rfl rfl) rfl (ak rfl rfl rfl) rfl rfl ?_
      refine cp (fun h' hE hL=>Iw _ h' (zs (JL sb)) _ _ (aiJ.ext hE) (hsu.ext hE) (by rw[kT];omega)) ?_
      refine agW (dG rfl rfl rfl) rfl ?_
      refine qm rfl rfl rfl ?_
      refine Ops.RV (fun ajh=>?_) (fun ajh=>?_)
      ·refine cp (fun h' hE hL=>VW _ h' hS hmb _ _ (hE.1 _ _ (by assumption))) ?_
       refine agW (dG rfl rfl rfl) rfl ?_
       refine agb rfl rfl rfl<|pq<|W.ret<|cZ<|aY<|aY<|cZ<|cZ<|aY ?_
       refine aY<|cZ<|aY ?_
       first | exact lvq rfl | exact absurd rfl Y6 | exact absurd rfl ajh | cases ajh
      ·refine Ops.no ?_
       refine agW (iH rfl rfl rfl) rfl ?_
       refine agb rfl rfl rfl<|pq<|W.ret<|cZ<|aY<|aY<|cZ<|cZ<|aY ?_
       refine aY<|cZ<|aY ?_
       first | exact lvq rfl | exact absurd rfl Y6 | exact absurd rfl ajh | cases ajh
     ·refine Ops.no ?_
      refine Ops.no ?_
      refine Ops.no ?_
      refine Ops.no ?_
      refine Ops.no ?_
      refine Ops.no ?_
      refine agW (iH rfl rfl rfl) rfl ?_
      refine qm rfl rfl rfl ?_
      refine Ops.no ?_
      refine agW (iH rfl rfl rfl) rfl ?_
      refine agb rfl rfl rfl<|pq<|W.ret<|cZ<|aY<|aY<|cZ<|cZ<|aY ?_
      refine aY<|cZ<|aY ?_
      first | exact lvq rfl | exact absurd rfl Y6 | exact absurd rfl ajh | cases ajh
    ·refine W.skip<|dI<|aA<|W.region rfl<|qm rfl rfl rfl ?_
     refine ag1 rfl ?_
     refine agb rfl rfl rfl<|pq ?_
     have hG:CB ps u=false:=by
      rw[hgu,decide_eq_false_iff_not]
      intro h9;rw[h9]at c49;exact c49 rfl
     refine⟨rfl,i+1,⟨hil,fun x hx=>?_⟩,by omega,⟨rfl,rfl,rfl,rfl,rfl,rfl,trivial⟩,TW⟩
     rw[List.take_add_one,hu]at hx
     rcases List.mem_append.1 hx with hx | hx
     ·exact hno x hx
     ·simp only[Option.toList_some,List.mem_singleton]at hx
      subst hx;exact hG
  ·refine W.exit<|bP<|bP<|gG<|dI<|aA<|W.region rfl<|qm rfl rfl rfl ?_
   refine ag1 rfl ?_
   refine agb rfl rfl rfl<|pq ?_
   refine⟨rfl,k+1,⟨by omega,fun j hj u hu=>?_⟩,by omega,⟨rfl,rfl,rfl,rfl,trivial⟩,TW⟩
   rcases Nat.lt_or_ge j k with h | h
   ·exact hnk j h u hu
   ·obtain rfl:j=k:=by omega
    exact hno u (by rw[List.take_of_length_le (by omega)];exact hu)
 ·refine W.exit<|bP<|bP<|gG<|aA<|W.seq<|W.region rfl<|agb rfl rfl rfl<|pq ?_
  refine W.ret ?_
  exfalso
  have h1:=List.mem_of_find?_eq_some akg
  have h2:=List.find?_some akg
  simp only[Bool.and_eq_true,decide_eq_true_eq]at h2
  have h3:sb∈(List.range (ps.length+1)).flatMap (chS ps.length):=by
   rw[←ajQ h4];exact List.mem_filter.2 ⟨h1,by simpa using h2.1⟩
  obtain⟨j,hj,h5⟩:=List.mem_flatMap.1 h3
  have:=hnk j (by have:=List.mem_range.1 hj;omega) sb h5
  rw[h2.2]at this;cases this
end Go.aS

/- SyrupClosed's card. Conditions: as the card says; over the given program. -/
namespace Go.Proofs.YtkkdgffaohidnaaGreatDoor
open Go Go.aS
set_option maxRecDepth 100000
set_option maxHeartbeats 4000000
theorem aji:joinedFacts prog aha ahb Rows.syrupClosedSpec Rows.syrupClosedRow=true:=by
 unfold joinedFacts
 repeat' with_reducible refine Bool.and_eq_true_iff.2 ⟨?_,?_⟩
 all_goals first
  | with_reducible exact aci
  | (with_reducible refine makeT ?_;kernel_rfl)
  | (with_reducible refine aeb ?_;kernel_rfl)
  | (as_aux_lemma=>kernel_rfl)
theorem ai_:prog.funcNamed Rows.syrupClosedRow.func=some aha:=by kernel_rfl
theorem ajl:prog.mainIs=some (true, "dbc29bbb9727fbebaf7429f7266f9d82b5a02ec0969210b724e1ed2dac66cc8d".toList):=ad9
theorem ajp:true=Rows.syrupClosedRow.goesBy prog:=by kernel_rfl
theorem ajj:true=prog.looks []:=by kernel_rfl
theorem ajw:Rows.SyrupClosedSaid:=
 OpenClaim.holds_of_wide_leaving_time aha ahb rfl rfl rfl rfl rfl rfl rfl ⟨rfl,rfl,rfl,rfl,rfl⟩ rfl rfl rfl rfl rfl ai_ ahK aji
  (of_decide_eq_true (by kernel_rfl)) (by unfold Func.isWrapper;first | (rw[if_pos (by decide+kernel)];kernel_rfl) | (rw[if_neg (by decide+kernel)];exact⟨rfl,rfl⟩))
  (
   fun os started H enc _ F=>ad7 (s:=Rows.syrupClosedSpec) os started H enc ahK (by kernel_rfl) (by kernel_rfl) (by kernel_rfl) (by kernel_rfl) (by kernel_rfl) rfl (fun _=>rfl)
   (OB (enc:=enc) (C:=Tryz.checked) (os:=os) (X:=fun w _=>laidMetH prog J9 w) (laidWorld os) #[.slice none 0 0] 8 rfl (by kernel_rfl) (by kernel_rfl) (by kernel_rfl) (by kernel_rfl) (by kernel_rfl) (laidWorld_met os _))
   (fun main hS hmb h nums lv Eg zg hl hg z0=>ajv main hS hmb h nums lv Eg zg hl hg z0) F)

theorem SyrupClosed_card:Rows.SyrupClosedCardSaid:=
 VZ .later [] [.handle] true (true, "dbc29bbb9727fbebaf7429f7266f9d82b5a02ec0969210b724e1ed2dac66cc8d") true
  ajw (fun _ h=>by cases h) (by kernel_rfl) (fun _ h=>by cases h) syrupClosed_row_tie rfl ⟨rfl,rfl⟩ ajl rfl
  (
   fun f fn hf hfn=>by
   obtain rfl:f=aha:=(Option.some.inj (ai_.symm.trans hf)).symm
   obtain rfl:fn=ahb:=(Option.some.inj (ahK.symm.trans hfn)).symm
   exact⟨ajj,fun j t ht=>by
    rw[show(ahb).params= #[nS] by kernel_rfl]at ht
    have h3:t=nS:=by
     rcases j with _ | j
     ·simpa using ht.symm
     ·simp at ht
    subst h3
    exact(show prog.wantsStandIn nS=false by kernel_rfl)⟩)
  ajp
#print axioms SyrupClosed_card
end Go.Proofs.YtkkdgffaohidnaaGreatDoor
