/- What is reached in so many steps, as the laws find it. Conditions: none; no program in sight. (And 29 texts more.) -/
import Derived.Test.YtkkdgffaohidnaaGreatDoorR10
import Derived.Test.YtkkdgffaohidnaaGreatDoorR13
import Derived.Test.YtkkdgffaohidnaaGreatDoorR11
set_option linter.unusedVariables false
set_option linter.unusedSimpArgs false
set_option linter.unusedSectionVars false

/- What is reached in so many steps, as the laws find it. Conditions: none; no program in sight. -/
namespace Go.aS
set_option linter.unusedVariables false
end Go.aS

/- Operations that come up in any order and only add to what is owned. Conditions: none; over any program. -/
namespace Go.aS
abbrev Spc:=Nat×Nat×(Value→ah→Prop)
def waits(ops:Array Oper):Nat→Nat→Nat→Bool
 | 0,_,_=>false
 | n+1,k,b=>match ops[k]? with | some o=>o.after.any fun e=>iG e&&(Nat.beq e.on b|| waits ops n e.on b) | none=>false
structure Y4(ops:Array Oper)(listed:Nat)(B:List Nat):Prop where
 cl:Closed ops listed
 low:∀k o,ops[k]? =some o→∀e∈o.after,iG e=true→e.on<k
 or:∀k,k<ops.size→listed.testBit k=false→k∈B∨∀b∈B,waits ops 6 k b=true
 un:∀b∈B,b<ops.size∧listed.testBit b=false
 nd:B.Nodup

theorem Y4.some{ops:Array Oper}{listed:Nat}{B:List Nat}(h:Y4 ops listed B){b:Nat}(hb:b∈B):qx ops listed≠[]:=by
 have key:∀(n k:Nat),k<n→k<ops.size→listed.testBit k=false→∃i,Fq ops listed i=true:=by
  intro n
  induction n with
  | zero=>intro k hk;omega
  | succ n ih=>
   intro k hk hlt hl
   by_cases hr:Fq ops listed k=true
   ·exact⟨k,hr⟩
   ·simp only[Fq,Array.getElem?_eq_getElem hlt,hl,Bool.not_false,Bool.true_and,Array.all_eq_true_iff_forall_mem,Bool.or_eq_true,Bool.not_eq_true']at hr
    have:∃e∈(ops[k]).after,iG e=true∧listed.testBit e.on=false:=by
     refine Classical.byContradiction fun hn=>hr fun e he=>?_
     cases hbe:iG e with
     | false=>exact .inl rfl
     | true=>
      cases ht:listed.testBit e.on with
      | true=>exact .inr rfl
      | false=>exact absurd ⟨e,he,hbe,ht⟩ hn
    obtain⟨e,he,h1,h2⟩:=this
    have:=h.low k _ (Array.getElem?_eq_getElem hlt) e he h1
    exact ih e.on (by omega) (by omega) h2
 obtain⟨i,hi⟩:=key (b+1) b (by omega) (h.un b hb).1 (h.un b hb).2
 intro e
 have:=o8.2 hi
 rw[e]at this
 cases this

theorem Y4.step{ops:Array Oper}{listed j:Nat}{B1 B2:List Nat}(h:Y4 ops listed (B1++j::B2))(hj:Fq ops listed j=true):Y4 ops (listed||| 2 ^ j) (B1++B2):=by
 have hnd:j∉B1++B2:=by
  have:=(List.perm_middle (a:=j) (l₁:=B1) (l₂:=B2)).nodup_iff.1 h.nd
  exact(List.nodup_cons.1 this).1
 refine⟨h.cl.step hj,h.low,fun k hk hl=>?_,fun b hb=>?_,?_⟩
 ·rw[testBit_or,Bool.or_eq_false_iff]at hl
  have hne:j≠k:=by simpa using hl.2
  rcases h.or k hk hl.1 with h' | h'
  ·left
   rcases List.mem_append.1 h' with h' | h'
   ·exact List.mem_append_left _ h'
   ·rcases List.mem_cons.1 h' with h' | h'
    ·exact absurd h'.symm hne
    ·exact List.mem_append_right _ h'
  ·right
   intro b hb
   refine h' b ?_
   rcases List.mem_append.1 hb with hb | hb
   ·exact List.mem_append_left _ hb
   ·exact List.mem_append_right _ (List.mem_cons_of_mem _ hb)
 ·have hb':b∈B1++j::B2:=by
   rcases List.mem_append.1 hb with hb | hb
   ·exact List.mem_append_left _ hb
   ·exact List.mem_append_right _ (List.mem_cons_of_mem _ hb)
  refine⟨(h.un b hb').1,?_⟩
  rw[testBit_or,(h.un b hb').2,Bool.false_or,decide_eq_false_iff_not]
  rintro rfl
  exact hnd hb
 ·have:=(List.perm_middle (a:=j) (l₁:=B1) (l₂:=B2)).nodup_iff.1 h.nd
  exact(List.nodup_cons.1 this).2

def Adds(x:Cx)(ops:Array Oper)(ε:Ev)(s:Spc):Prop:=
 ∃o,ops[s.1]? =some o∧o.dst=some s.2.1∧d_ o.dst x.n=true∧(∀c,o.op≠ .defer c)∧o.guard=none∧∀e,Cons ε e→∀F,Dx x o e F fun v F'=>∃A Lp,Lp.Perm F'∧s.2.2 v A∧Lp=A++F

theorem Cons.back{ε:Ev}{d:Nat}{v:Value}{e:Operand→Value}(h:Cons (upd ε (some d) v) e)(hd:ε d=none):Cons ε e:=fun y u hy=>h y u (by
 cases y with
 | tmp t=>
  simp only[UK,upd]at hy⊢
  cases hb:Nat.beq t d with
  | true=>rw[Nat.eq_of_beq_eq_true hb,hd]at hy;cases hy
  | false=>exact hy
 | _=>exact hy)

section rules
variable{x:Cx}{Q:Post}{ρ:Env}{ds:List Deferred}{F:ah}{ops:Array Oper}{L:ah}{fuel listed:Nat}
theorem Adds.of{i d:Nat}{P:Value→ah→Prop}{op:Op}{ty:TypeId}{pos:String}{bK:Array Edge}(ho:cO ops.toList i=some ⟨some d,op,ty,pos,bK,none⟩)(hd:Nat.blt d x.n=true)(hn:cu op=true)(H:∀F,Ef x ρ ⟨some d,op,ty,pos,bK,none⟩ F fun v F'=>∃A,P v A∧F'=A++F):Adds x ops (look ρ) (i,d,P):=
 ⟨_,aU ho,rfl,hd,gI hn,rfl,fun e he F=>(H F e fun y v hy=>he y v (by rw[DC];exact hy)).mono fun v F' ⟨Lp,p,A,hv,e⟩=>⟨A,Lp,p,hv,e⟩⟩
theorem Adds.call{i d f:Nat}{P:Value→ah→Prop}{args:List Operand}{ts:Array TypeId}{vs:List Value}{ty:TypeId}{pos:String}{bK:Array Edge}(H:∀h',Ext x.h h'→dV x.P x.main f vs.toArray h' [] P)(ho:cO ops.toList i=some ⟨some d,.call ⟨.value (.func f),args.toArray,ts⟩,ty,pos,bK,none⟩:=by rfl)[FB x.P f](hv:evs ρ args=some vs:=by rfl)(hd:Nat.blt d x.n=true:=by rfl):Adds x ops (look ρ) (i,d,P):=
 .of ho hd rfl fun F=>lQ rfl hv (fun h' hE _=>H h' hE) fun v A' hv=>⟨A',hv,rfl⟩
end rules
end Go.aS
namespace Go.aS
section
variable{α:Type}{row:α→List Value}{w:Nat}[rw':Rw row w]
section
variable{x:Cx}{ρ:Env}{F:ah}{o:Oper}{R:Value→ah→Prop}
end
end
section
variable{x:Cx}{S:ah→Prop}{ρ:Env}{o:Oper}
theorem ak8{t E s by':Nat}{z:Value}{zc:Array Value}{y lo:Operand}{a:Option Addr}{k:IntKind}{l cap m:Nat}(ho:o.op= .slice t y (some lo) none none)[TD x.P t (.slice E)][TI x.P E s by' z zc](hy:ev ρ y=some (.slice a l cap))(hh:ev ρ lo=some (.int k (m:Int)))(hm:m≤l:=by omega):Yv x S ρ o (.slice (if cap=m then a else a.map (·.add (m*s))) (l-m) (cap-m)):=fun e he F hF h' hE=>by
 have e1:(0:Int)≤m∧(m:Int)≤l:=by omega
 simp only[execOp,ho,he y _ hy,he lo _ hh,Instr.sliceAt,Instr.slice,Instr.sliceBounds,Instr.sliceBound,asIntOf,bind_eq,au,bind_assoc,bind_pure,Option.map_none,Option.map_some,aC,dH,if_pos e1,Int.toNat_natCast]
 exact⟨rfl,rfl⟩
end
end Go.aS
namespace Go.aS
section
variable{x:Cx}{Q:Post}{ρ:Env}{ds:List Deferred}{ops:Array Oper}{G:ah}{y₁ y₂ y₃ y₄ agp agq:Nat×Obj}{id n:Nat}
end
end Go.aS
namespace Go.aS
end Go.aS

/- Slices of slices; makeSlice. Conditions: none; over any program. -/
namespace Go.aS
structure Sv where
  a:Option Addr
  n:Nat
  cap:Nat
abbrev Sv.val(s:Sv):Value:=.slice s.a s.n s.cap
section
variable{α:Type}{row:α→List Value}{w:Nat}[rw':Rw row w]{E:TypeId}
inductive UG(E:TypeId)(row:α→List Value)[Rw row w]:List Sv→List (List α)→ah→Prop
  | nil:UG E row [] [] []
  | cons {s:Sv} {l:List α} {A B:ah} {vs:List Sv} {ls:List (List α)}:Os E row s.val l A→UG E row vs ls B→UG E row (s::vs) (l::ls) (A++B)
theorem UG.len{vs:List Sv}{ls:List (List α)}{A:ah}(h:UG E row vs ls A):vs.length=ls.length:=by
  induction h with
  | nil=>rfl
  | cons _ _ ih=>simp[ih]
theorem UG.shut{vs:List Sv}{ls:List (List α)}{A:ah}(h:UG E row vs ls A):Shut A:=by
  induction h with
  | nil=>exact .nil
  | cons h _ ih=>exact h.shut.app ih
theorem UG.sl{vs:List Sv}{ls:List (List α)}{A:ah}{h':Hp}(h:UG E row vs ls A)(hL:∀b o,(b,o)∈A→h' b=some o):∀{k:Nat} {s:Sv} {l:List α},vs[k]? =some s→ls[k]? =some l→Sl h' row s.val l:=by
  induction h with
  | nil=>intro k s l hs;simp at hs
  | cons h1 _ ih=>
    intro k s l hs hl
    rcases k with _ | k
    · simp at hs hl;subst hs hl
      exact h1.sl fun b o hb=>hL b o (List.mem_append_left _ hb)
    · simp at hs hl
      exact ih (fun b o hb=>hL b o (List.mem_append_right _ hb)) hs hl
end
/-! makeSlice -/
section
variable{x:Cx}{ρ:Env}{F:ah}{o:Oper}{R:Value→ah→Prop}
end
end Go.aS

/- Sets of qualities, as the laws keep them. Conditions: none; over the given program. -/
namespace Go.aS
set_option maxRecDepth 100000
set_option maxHeartbeats 4000000
abbrev V9(β:Nat):Value:=.slice (some ⟨β,0,none⟩) 13 13
abbrev bsO(f:Nat→Bool):Obj:=.cells (bA f) RS (0,0)
end Go.aS

/- SyrupLongest. Conditions: none; over the given program. -/
namespace Go.aS
set_option maxRecDepth 100000
set_option maxHeartbeats 4000000
theorem UH{ps:List Pn}{q:Int}(h:nV ps=0)(h0:0≤q)(h1:q≤12):kU ps [q]=0:=by
 have:¬outs q 0 12:=by unfold outs;omega
 simp[kU,h,this]
end Go.aS

/- What goes round for ever comes to a ring. Conditions: none; no program in sight. -/
namespace Go.aS
set_option linter.unusedVariables false
end Go.aS

/- All ways of so many steps; the first of them. Conditions: none; no program in sight. -/
namespace Go.aS
set_option linter.unusedVariables false
end Go.aS

/- All lists of so many numbers, as a program makes them; all ascending ones. Conditions: none; no program in sight. -/
namespace Go.aS
set_option linter.unusedVariables false
end Go.aS

/- All lists of so many numbers. Conditions: none; over the given program. -/
namespace Go.aS
set_option maxRecDepth 100000
set_option maxHeartbeats 4000000
end Go.aS

/- Ways, as the laws make them. Conditions: none; over the given program. -/
namespace Go.aS
set_option maxRecDepth 100000
set_option maxHeartbeats 4000000
end Go.aS

/- Comparing truth values. Conditions: none; over any program. -/
namespace Go.aS
section
variable{x:Cx}{ρ:Env}{S:ah→Prop}{o:Oper}{v:Value}
end
end Go.aS

/- Shut blocks are put by. Conditions: none; over any program. -/
namespace Go.aS
theorem W.cut{x:Cx}{c c2:Code}{Q:Post}{ρ:Env}{ds:List Deferred}{F:ah}(L:Env)(G:ah)(H:W x c (fun e ρ' ds' F'=>e= .normal∧ds'=ds∧Sub L ρ'∧Sb G F') ρ ds F)(K:W x c2 Q L ds G):W x c (thn (fun ρ' ds' F'=>W x c2 Q ρ' ds' F') Q) ρ ds F:=
 W.mono H fun e ρ' ds' F' h=>by
  obtain⟨he,hd,hs,hb⟩:=h
  subst he hd
  exact aA (W.env hs (W.sb hb K))
theorem W.aiB{σ:Type}{x:Cx}{c c2:Code}{Q:Post}{ρ:Env}{ds:List Deferred}{F:ah}(ok:σ→Prop)(L:σ→Env)(G:σ→ah)(H:W x c (fun e ρ' ds' F'=>e= .normal∧ds'=ds∧∃s,ok s∧Sub (L s) ρ'∧Sb (G s) F') ρ ds F)(K:∀s,ok s→W x c2 Q (L s) ds (G s)):W x c (thn (fun ρ' ds' F'=>W x c2 Q ρ' ds' F') Q) ρ ds F:=
 W.mono H fun e ρ' ds' F' h=>by
  obtain⟨he,hd,s,ho,hs,hb⟩:=h
  subst he hd
  exact aA (W.env hs (W.sb hb (K s ho)))
end Go.aS

/- SyrupRing. Conditions: none; over the given program. -/
namespace Go.aS
set_option maxRecDepth 100000
set_option maxHeartbeats 4000000
end Go.aS

/- From where syrups go round for ever: the list. Conditions: none; over the given program. -/
namespace Go.aS
set_option maxRecDepth 100000
set_option maxHeartbeats 4000000
end Go.aS

/- The shortest way to treacle; what treacle comes of a syrup. Conditions: none; over the given program. -/
namespace Go.aS
set_option maxRecDepth 100000
set_option maxHeartbeats 4000000
end Go.aS

/- Treacle, as the document has it. Conditions: none; over the given program. -/
namespace Go.aS
set_option maxRecDepth 100000
set_option maxHeartbeats 4000000
theorem aii(main:Side)(h:Hp)(n lo hi:Int):Pu prog main ahB #[I n,I lo,I hi] h (.bool (decide (lo≤n)&&decide (n≤hi))):=by
 refine dV.aG ah1 rfl (by show 3≤15;decide) [(0,I n),(1,I lo),(2,I hi)] ⟨rfl,rfl,rfl,trivial⟩ ?_
 refine W.seq<|W.region rfl<|agb rfl rfl rfl<|pq<|W.seq<|W.region rfl<|qm rfl rfl rfl<|qm rfl rfl rfl ?_
 refine agW (IJ rfl rfl rfl) rfl ?_
 refine qm rfl rfl rfl ?_
 refine Ops.ask (fun ae5=>?_) (fun ae5=>?_)
 ·refine oq (aN rfl rfl) rfl (ak rfl rfl rfl) rfl rfl ?_
  refine oq (aN rfl rfl) rfl (ak rfl rfl rfl) rfl rfl ?_
  refine oq (Lr rfl rfl rfl) rfl (ak rfl rfl rfl) rfl rfl ?_
  refine agW (dG rfl rfl rfl) rfl ?_
  refine agb rfl rfl rfl<|pq<|W.ret ?_
  refine uZ ?_
  exact congrArg Value.bool (by simp[*])
 ·refine Ops.no ?_
  refine Ops.no ?_
  refine Ops.no ?_
  refine agW (iH rfl rfl rfl) rfl ?_
  refine agb rfl rfl rfl<|pq<|W.ret ?_
  refine uZ ?_
  exact congrArg Value.bool (by simp[*])
theorem aik(main:Side)(h:Hp)(p:Pn)(q:Int):Pu prog main ahz #[p.val,I q] h (.bool (p.takes q)):=by
 refine dV.aG ah0 rfl (by show 2≤11;decide) [(0,p.val),(1,I q)] ⟨rfl,rfl,trivial⟩ ?_
 refine W.seq<|W.region rfl ?_
 refine Ops.box (cs:= #[I p.lo,I p.hi,I p.sh]) (fun yR=>?_)
 refine agb rfl rfl rfl<|pq<|W.seq<|W.region rfl<|qm rfl rfl rfl ?_
 refine agY rfl ?_
 refine agX rfl ?_
 refine agY rfl ?_
 refine agX rfl ?_
 refine cp (fun h' hE hL=>aii _ h' q p.lo p.hi) ?_
 refine agb rfl rfl rfl<|pq<|W.ret ?_
 exact uZ rfl
end Go.aS

/- SyrupShortest. Conditions: none; over the given program. -/
namespace Go.aS
set_option maxRecDepth 100000
set_option maxHeartbeats 4000000
end Go.aS

/- Pans that are forced. Conditions: none; over the given program. -/
namespace Go.aS
set_option maxRecDepth 100000
set_option maxHeartbeats 4000000
end Go.aS

/- Pans that are shut; where one comes without them. Conditions: none; no program in sight. -/
namespace Go.aS
set_option linter.unusedVariables false
end Go.aS

/- Pans shut, as the document has it. Conditions: none; over the given program. -/
namespace Go.aS
set_option maxRecDepth 100000
set_option maxHeartbeats 4000000
end Go.aS

/- SyrupForced. Conditions: none; over the given program. -/
namespace Go.aS
set_option maxRecDepth 100000
set_option maxHeartbeats 4000000
end Go.aS

/- All ascending lists of so many numbers, as a program makes them. Conditions: none; no program in sight. -/
namespace Go.aS
set_option linter.unusedVariables false
set_option maxRecDepth 100000
end Go.aS

/- All ascending lists of so many numbers. Conditions: none; over the given program. -/
namespace Go.aS
set_option maxRecDepth 100000
set_option maxHeartbeats 4000000
theorem UG.os{α:Type}{row:α→List Value}{w:Nat}[Rw row w]{E:TypeId}{vs:List Sv}{ls:List (List α)}{A:ah}(h:UG E row vs ls A):∀{k:Nat} {s:Sv} {l:List α},vs[k]? =some s→ls[k]? =some l→∃B,Os E row s.val l B∧∀p∈B,p∈A:=by
 induction h with
 | nil=>intro k s l hs;simp at hs
 | cons h1 _ ih=>
  intro k s l hs hl
  rcases k with _ | k
  ·simp at hs hl;subst hs hl
   exact⟨_,h1,fun p hp=>List.mem_append_left _ hp⟩
  ·simp at hs hl
   obtain⟨B,h2,h3⟩:=ih hs hl
   exact⟨B,h2,fun p hp=>List.mem_append_right _ (h3 p hp)⟩
end Go.aS

/- SyrupClosed. Conditions: none; over the given program. -/
namespace Go.aS
set_option maxRecDepth 100000
set_option maxHeartbeats 4000000
end Go.aS

/- SyrupMore. Conditions: none; over the given program. -/
namespace Go.aS
set_option maxRecDepth 100000
set_option maxHeartbeats 4000000
end Go.aS

/- Pans that are checked, and which of them take a syrup, as the document has it and as the program has it. Conditions: none; over the given program. -/
namespace Go.aS
set_option maxRecDepth 100000
set_option maxHeartbeats 4000000
theorem akO(n lo hi:Int):(!(decide (lo≤n)&&decide (n≤hi)))=decide (outs n lo hi):=by
 rw[←Bool.decide_and,←decide_not]
 exact decide_eq_decide.2 (by unfold outs;omega)
theorem ak9(main:Side)(h:Hp)(ps:List Pn)(vp:Value)(hf:Sl h Pn.row vp ps):Pu prog main akx #[vp] h (I (nV ps)):=by
 obtain⟨a,cap,rfl⟩:=hf.dA
 refine dV.aG akM rfl (by show 1≤37;decide) [(0,.slice a ps.length cap)] ⟨rfl,trivial⟩ ?_
 refine W.seq<|W.region rfl<|agb rfl rfl rfl<|pq<|W.seq<|W.seq<|W.region rfl<|qm rfl rfl rfl ?_
 refine agW (dM rfl rfl) rfl ?_
 refine agW (rC rfl rfl rfl) rfl ?_
 refine pq ?_
 refine W.bC rfl (fun c7=>?_) (fun c7=>?_)
 ·refine W.seq<|W.region rfl<|agb rfl rfl rfl<|pq<|W.ret<|aY ?_
  refine uZ ?_
  show I _=I _;congr 1;rw[nV,if_pos (by omega)]
 ·have h4:ps.length≤4:=by omega
  have hcp:nV ps=lX ps:=by rw[nV,if_neg (by omega)]
  refine W.skip<|aA<|W.seq<|W.seq<|W.region rfl<|agb rfl rfl rfl<|pq<|W.block ?_
  refine W.loop (σ:=Nat) (fun i=>i≤ps.length∧lX ps=lX (ps.drop i)) (fun i=>[(3,I i),(0,.slice a ps.length cap)]) (fun _=>[]) (fun i=>ps.length-i) 0 ⟨Nat.zero_le _,rfl⟩ ⟨rfl,rfl,trivial⟩ .refl ?_
  rintro i ⟨hi,ht⟩
  refine W.seq<|W.seq<|W.region rfl<|qm rfl rfl rfl<|qm rfl rfl rfl ?_
  refine agW (dM rfl rfl) rfl ?_
  refine agW (fO rfl rfl rfl) rfl ?_
  refine pq ?_
  refine W.bC rfl (fun c11=>?_) (fun c11=>?_)
  ·have hil:i<ps.length:=by omega
   obtain⟨p,hp,hdr⟩:=has hil
   rw[hdr,lX]at ht
   obtain⟨b,off,c,E,fz,hv,hb,hx,hy,hz⟩:=hf.at hp
   cases hv
   have hx':c.extract (off+i*3) (off+i*3+3)= #[I p.lo,I p.hi,I p.sh]:=hx
   clear hx
   refine W.skip<|aA<|W.seq<|W.block<|W.seq<|W.region rfl<|qm rfl rfl rfl<|qm rfl rfl rfl ?_
   refine ag3 rfl ?_
   refine ag2 rfl ?_
   refine Ops.new (fun wC=>?_)
   refine Ops.jP (vs:= #[I p.lo,I p.hi,I p.sh]) ?_
   refine pq<|W.seq<|W.seq<|W.region rfl ?_
   refine agY rfl ?_
   refine agX rfl ?_
   refine cp (fun h' hE hL=>aii _ h' p.lo 0 12) ?_
   refine KU (xU rfl rfl) (congrArg Value.bool (akO p.lo 0 12)) rfl wn rfl rfl ?_
   refine qm rfl rfl rfl ?_
   refine Ops.ask (fun alJ=>?_) (fun alJ=>?_)
   ·refine Ops.no ?_
    refine Ops.no ?_
    refine Ops.no ?_
    refine Ops.no ?_
    refine agW (dG rfl rfl rfl) rfl ?_
    refine pq ?_
    refine W.dW ?_
    refine W.seq<|W.region rfl<|agb rfl rfl rfl<|pq<|W.ret<|aY<|cZ<|aY<|aY ?_
    refine cZ<|aY ?_
    have hk:gW p=1:=by rw[gW,if_pos (by first | exact .inl (by assumption) | exact .inr (by assumption))]
    refine uZ ?_
    show I _=I _;congr 1;rw[hcp,ht,hk];rfl
   ·refine oq (ay rfl rfl) rfl (ak rfl rfl rfl) rfl rfl ?_
    refine oq (iQ rfl rfl) rfl (ak rfl rfl rfl) rfl rfl ?_
    refine cp (g:=some _) (fun h' hE hL=>aii _ h' p.hi 0 12) ?_
    refine KU (xU rfl rfl) (congrArg Value.bool (akO p.hi 0 12)) rfl (ak rfl rfl rfl) rfl rfl ?_
    refine agW (iH rfl rfl rfl) rfl ?_
    refine pq ?_
    refine W.bC rfl (fun c27=>?_) (fun c27=>?_)
    ·refine W.seq<|W.region rfl<|agb rfl rfl rfl<|pq<|W.ret<|aY<|cZ<|aY<|aY ?_
     refine cZ<|aY ?_
     have hk:gW p=1:=by rw[gW,if_pos (by first | exact .inl (by assumption) | exact .inr (by assumption))]
     refine uZ ?_
     show I _=I _;congr 1;rw[hcp,ht,hk];rfl
    ·refine W.skip<|aA<|W.seq<|W.seq<|W.region rfl ?_
     refine agY rfl ?_
     refine agX rfl ?_
     refine agY rfl ?_
     refine agX rfl ?_
     refine agW (rC rfl rfl rfl) rfl ?_
     refine pq ?_
     refine W.bC rfl (fun c32=>?_) (fun c32=>?_)
     ·refine W.seq<|W.region rfl<|agb rfl rfl rfl<|pq<|W.ret<|aY<|cZ<|aY<|aY ?_
      refine cZ<|aY ?_
      have hk:gW p=5:=by rw[gW,if_neg (by intro h;rcases h with h | h <;>contradiction),if_pos (by omega)]
      refine uZ ?_
      show I _=I _;congr 1;rw[hcp,ht,hk];rfl
     ·refine W.skip<|aA<|W.seq<|W.region rfl ?_
      refine agY rfl ?_
      refine agX rfl ?_
      refine cp (fun h' hE hL=>aii _ h' p.sh (-6) 6) ?_
      refine KU (xU rfl rfl) (congrArg Value.bool (akO p.sh (-6) 6)) rfl wn rfl rfl ?_
      refine pq ?_
      refine W.bC rfl (fun c36=>?_) (fun c36=>?_)
      ·refine W.seq<|W.region rfl<|agb rfl rfl rfl<|pq<|W.ret<|cZ<|aY<|aY<|cZ ?_
       refine aY ?_
       have hk:gW p=1:=by rw[gW,if_neg (by intro h;rcases h with h | h <;>contradiction),if_neg (by omega),if_pos (by assumption)]
       refine uZ ?_
       show I _=I _;congr 1;rw[hcp,ht,hk];rfl
      ·refine W.skip<|dI<|aA<|W.region rfl<|qm rfl rfl rfl ?_
       refine ag1 rfl ?_
       refine agb rfl rfl rfl<|pq ?_
       have hk:gW p=0:=by rw[gW,if_neg (by intro h;rcases h with h | h <;>contradiction),if_neg (by omega),if_neg (by assumption)]
       exact⟨rfl,i+1,⟨hil,by rw[ht,hk];rfl⟩,by omega,⟨rfl,rfl,trivial⟩,.skip rfl .refl⟩
  ·refine W.exit<|bP<|bP<|gG<|aA<|W.seq<|W.region rfl<|agb rfl rfl rfl<|pq ?_
   refine W.ret ?_
   obtain rfl:i=ps.length:=by omega
   refine uZ ?_
   show I _=I _;congr 1;rw[hcp,ht,List.drop_length];rfl
theorem akP{ps:List Pn}{q:Int}:kU ps [q]=if nV ps≠0 then nV ps else if outs q 0 12 then 1 else 0:=by
 unfold kU;simp
theorem ald(main:Side)(h:Hp)(ps:List Pn)(vp:Value)(q:Int)(hf:Sl h Pn.row vp ps):Pu prog main aky #[vp,I q] h (I (kU ps [q])):=by
 obtain⟨a,cap,rfl⟩:=hf.dA
 refine dV.aG akN rfl (by show 2≤14;decide) [(0,.slice a ps.length cap),(1,I q)] ⟨rfl,rfl,trivial⟩ ?_
 refine W.seq<|W.region rfl<|agb rfl rfl rfl<|pq<|W.seq<|W.seq<|W.region rfl<|qm rfl rfl rfl ?_
 refine cp (fun h' hE hL=>ak9 _ h' ps _ (hf.ext hE)) ?_
 refine agb rfl rfl rfl<|pq<|W.seq<|W.region rfl<|qm rfl rfl rfl ?_
 refine agW (nG rfl rfl rfl) rfl ?_
 refine pq ?_
 refine W.bC rfl (fun c9=>?_) (fun c9=>?_)
 ·refine W.seq<|W.region rfl<|qm rfl rfl rfl<|agb rfl rfl rfl<|pq<|W.ret<|aY ?_
  refine uZ ?_
  show I _=I _;congr 1;rw[akP,if_pos (by assumption)]
 ·refine W.skip<|aA<|W.seq<|W.seq<|W.region rfl<|qm rfl rfl rfl ?_
  refine cp (fun h' hE hL=>aii _ h' q 0 12) ?_
  refine KU (xU rfl rfl) (congrArg Value.bool (akO q 0 12)) rfl wn rfl rfl ?_
  refine pq ?_
  refine W.bC rfl (fun c13=>?_) (fun c13=>?_)
  ·refine W.seq<|W.region rfl<|agb rfl rfl rfl<|pq<|W.ret<|aY ?_
   refine uZ ?_
   show I _=I _;congr 1;rw[akP,if_neg (by assumption),if_pos (by assumption)]
  ·refine W.skip<|aA<|W.seq<|W.region rfl<|agb rfl rfl rfl<|pq<|W.ret ?_
   refine uZ ?_
   show I _=I _;congr 1;rw[akP,if_neg (by assumption),if_neg (by assumption)]
def TkF(ps:List Pn)(q:Int):List Nat×Int:=if kU ps [q]≠0 then([],kU ps [q])else((List.range ps.length).filter fun i=>P9 ps q i,0)
theorem aln{ps:List Pn}{q:Int}:(TkF ps q).1.length≤4:=by
 unfold TkF
 split
 ·simp
 ·rename_i h
  have h4:ps.length≤4:=(Sj (by simpa using h)).1.len
  exact Nat.le_trans (List.length_filter_le ..) (by simpa using h4)
theorem ak_(main:Side)(h:Hp)(ps:List Pn)(vp:Value)(q:Int)(hf:Sl h Pn.row vp ps):dV prog main akt #[vp,I q] h [] (fun v A=>∃w S,v= .tuple #[w,I (TkF ps q).2]∧Os dL fH w (zs (TkF ps q).1) S∧Sb S A):=by
 obtain⟨a,cap,rfl⟩:=hf.dA
 refine dV.aG akL rfl (by show 2≤32;decide) [(0,.slice a ps.length cap),(1,I q)] ⟨rfl,rfl,trivial⟩ ?_
 refine W.seq<|W.region rfl<|agb rfl rfl rfl<|agb rfl rfl rfl<|pq<|W.seq<|W.seq<|W.region rfl<|qm rfl rfl rfl ?_
 refine qm rfl rfl rfl ?_
 refine cp (fun h' hE hL=>ald _ h' ps _ q (hf.ext hE)) ?_
 refine agb rfl rfl rfl<|pq<|W.seq<|W.region rfl<|qm rfl rfl rfl ?_
 refine agW (nG rfl rfl rfl) rfl ?_
 refine pq ?_
 refine W.bC rfl (fun c13=>?_) (fun c13=>?_)
 ·refine W.seq<|W.region rfl<|qm rfl rfl rfl<|agb rfl rfl rfl<|agb rfl rfl rfl<|pq<|W.ret<|aY ?_
  refine mg (vs:=[_,_]) ?_
  rw[TkF,if_pos (by assumption)]
  exact⟨_,[],rfl,.nil .nil,.nil (by repeat(first | exact Shut.nil | refine Shut.cons rfl ?_))⟩
 ·have h0:kU ps [q]=0:=by simpa using c13
  have h4:ps.length≤4:=(Sj h0).1.len
  refine W.skip<|aA<|W.seq<|W.region rfl<|agb rfl rfl rfl<|pq<|W.seq<|W.seq<|W.region rfl ?_
  refine agb rfl rfl rfl<|pq<|W.block ?_
  refine W.Js (fun(k:Nat) (v:Value) (S:ah)=>k≤ps.length∧Os dL fH v (zs ((List.range k).filter fun i=>P9 ps q i)) S) (fun k v S=>[(8,I k),(7,v),(0,.slice a ps.length cap),(1,I q)]) (fun k v S=>S) (fun k _ _=>ps.length-k) 0 (.slice none 0 0) [] ⟨Nat.zero_le _,.nil .nil⟩ ⟨rfl,rfl,rfl,rfl,trivial⟩ .refl ?_
  rintro k v S ⟨hk,hS⟩
  refine W.seq<|W.seq<|W.region rfl<|qm rfl rfl rfl<|qm rfl rfl rfl ?_
  refine agW (dM rfl rfl) rfl ?_
  refine agW (fO rfl rfl rfl) rfl ?_
  refine pq ?_
  refine W.bC rfl (fun c18=>?_) (fun c18=>?_)
  ·have hkl:k<ps.length:=by omega
   have hlen:(zs ((List.range k).filter fun i=>P9 ps q i)).length≤4:=by rw[kT];exact Nat.le_trans (List.length_filter_le ..) (by simp;omega)
   obtain⟨p,hp,-⟩:=has hkl
   have hta:P9 ps q k=p.takes q:=by unfold P9;rw[hp]
   obtain⟨b,off,c,E,fz,hv,hb,hx,hy,hz⟩:=hf.at hp
   cases hv
   have hx':c.extract (off+k*3) (off+k*3+3)= #[I p.lo,I p.hi,I p.sh]:=hx
   clear hx hz
   refine W.skip<|aA<|W.seq<|W.block<|W.seq<|W.region rfl<|qm rfl rfl rfl<|qm rfl rfl rfl ?_
   refine ag3 rfl ?_
   refine ag2 rfl ?_
   refine qm rfl rfl rfl ?_
   refine cp (fun h' hE hL=>aik _ h' p q) ?_
   refine pq ?_
   refine W.cond rfl (fun c26=>?_) (fun c26=>?_)
   ·refine W.region rfl<|qm rfl rfl rfl<|qm rfl rfl rfl ?_
    refine Ops.NK (cs:= #[I k]) (fun am3=>?_) rfl
    refine oe rfl wn rfl rfl (iW (row:=fH) (l':=[(k:Int)]) rfl rfl rfl hS (.tail .all) (fun h2 _ hl=>Sl.mk (hl am3 _ (.head _)) rfl (Part.all [I k])) (by simp;omega) (by decide) rfl (fun v' S' hS'=>?_))
    refine agb rfl rfl rfl<|Ops.nil<|dI<|aA<|W.region rfl<|qm rfl rfl rfl ?_
    refine ag1 rfl ?_
    refine agb rfl rfl rfl<|pq ?_
    exact⟨rfl,k+1,v',S',⟨by omega,by rw[List.range_succ,List.filter_append,X3];simpa[zs,hta,c26]using hS'⟩,by omega,⟨rfl,rfl,rfl,rfl,trivial⟩,.skip rfl .refl⟩
   ·refine W.skip<|dI<|aA<|W.region rfl<|qm rfl rfl rfl ?_
    refine ag1 rfl ?_
    refine agb rfl rfl rfl<|pq ?_
    exact⟨rfl,k+1,v,S,⟨by omega,by rw[List.range_succ,List.filter_append,X3];simpa[zs,hta,c26]using hS⟩,by omega,⟨rfl,rfl,rfl,rfl,trivial⟩,.refl⟩
  ·refine W.exit<|bP<|bP<|gG<|aA<|W.seq<|W.region rfl<|qm rfl rfl rfl<|agb rfl rfl rfl<|agb rfl rfl rfl ?_
   refine pq<|W.ret ?_
   obtain rfl:k=ps.length:=by omega
   refine mg (vs:=[_,_]) ?_
   rw[TkF,if_neg (by assumption)]
   exact⟨_,S,rfl,hS,.refl⟩
theorem ale{ps:List Pn}{q:Nat}(h4:ps.length≤4):bQ ps 0 q=(List.range ps.length).filter fun i=>P9 ps q i:=by
 have e:List.range 4=List.range ps.length++(List.range (4-ps.length)).map (ps.length+ ·):=by
  rw[←List.range_add];congr 1;omega
 rw[bQ,e,List.filter_append]
 have h1:((List.range (4-ps.length)).map (ps.length+ ·)).filter (fun i=>P9 ps q i&& !(0:Nat).testBit i)=[]:=by
  refine List.filter_eq_nil_iff.2 fun i hi=>?_
  obtain⟨j,-,rfl⟩:=List.mem_map.1 hi
  unfold P9
  rw[List.getElem?_eq_none (by omega)];simp
 rw[h1,List.append_nil]
 exact List.filter_congr fun i _=>by simp
theorem ala(main:Side)(h:Hp)(ps:List Pn)(vp:Value)(q:Int)(hf:Sl h Pn.row vp ps):dV prog main akh #[vp,I q] h [] (fun v A=>∃w S,v= .tuple #[w,I (TkF ps q).2]∧Os dL fH w (zs (TkF ps q).1) S∧Sb S A):=by
 obtain⟨a,cap,rfl⟩:=hf.dA
 refine dV.aG akB rfl (by show 2≤21;decide) [(0,.slice a ps.length cap),(1,I q)] ⟨rfl,rfl,trivial⟩ ?_
 refine W.seq<|W.region rfl<|agb rfl rfl rfl<|agb rfl rfl rfl<|pq<|W.seq<|W.region rfl<|qm rfl rfl rfl<|qm rfl rfl rfl ?_
 refine Ops.NK (cs:= #[I q]) (fun KY=>?_) rfl
 refine cp (fun h' hE hL=>Am _ h' ps _ [q] _ (hf.ext hE) (Sl.mk (hL KY _ (.head _)) rfl (Part.all [I q])) (by simp)) ?_
 refine qm rfl rfl rfl<|oq (bD rfl rfl rfl) rfl wn rfl rfl<|oq (bD rfl rfl rfl) rfl wn rfl rfl ?_
 have hcs:∃cs:Array Value,(if kU ps [q]=0 then xJ (.slice a ps.length cap) 0 else LZ)= .agg cs∧cs.size=2∧ones cs.toList=true:=by
  split <;>exact⟨_,rfl,rfl,rfl⟩
 obtain⟨cs,hcs,hcs2,hcs1⟩:=hcs
 rw[hcs]
 refine Ops.new (fun yC=>?_)
 refine Ops.jP (n:=2) (vs:=cs) ?_ (hy:=by rfl) (hn:=hcs2) (h1:=hcs1)
 refine agb rfl rfl rfl<|pq<|W.seq<|W.seq<|W.region rfl<|qm rfl rfl rfl ?_
 refine agW (nG rfl rfl rfl) rfl ?_
 refine pq ?_
 refine W.bC rfl (fun c16=>?_) (fun c16=>?_)
 ·refine W.seq<|W.region rfl<|qm rfl rfl rfl<|agb rfl rfl rfl<|agb rfl rfl rfl<|pq<|W.ret<|aY ?_
  refine mg (vs:=[_,_]) ?_
  rw[TkF,if_pos (by assumption)]
  exact⟨_,[],rfl,.nil .nil,.nil (by repeat(first | exact Shut.nil | refine Shut.cons rfl ?_))⟩
 ·have h0:kU ps [q]=0:=by simpa using c16
  obtain⟨hok,hq0,hq12⟩:=Sj h0
  rw[if_pos h0]at hcs
  cases hcs
  obtain⟨q,rfl⟩:∃n:Nat,q=n:=⟨q.toNat,by omega⟩
  refine W.skip<|aA<|W.seq<|W.region rfl ?_
  refine ag2 rfl ?_
  refine qm rfl rfl rfl ?_
  refine c0 (fun h' hE hL=>EM _ h' ps _ 0 q (hf.ext hE) hok.len (by decide)) (fun v A' hv=>?_)
  obtain⟨S,hS,hsb⟩:=hv
  rw[ale hok.len]at hS
  refine agb rfl rfl rfl<|agb rfl rfl rfl<|pq<|W.ret ?_
  refine mg (vs:=[_,_]) ?_
  rw[TkF,if_neg (by assumption)]
  exact⟨_,S,rfl,hS,.right hsb (by repeat(first | exact Shut.nil | refine Shut.cons rfl ?_))⟩
end Go.aS

/- Ways made of numbers. Conditions: none; over the given program. -/
namespace Go.aS
set_option maxRecDepth 100000
set_option maxHeartbeats 4000000
theorem alo{ps:List Pn}{q:Int}{n:Nat}(h:n∈(TkF ps q).1):n<ps.length:=by
 unfold TkF at h
 split at h
 ·cases h
 ·exact List.mem_range.1 (List.mem_filter.1 h).1
theorem alK{ps:List Pn}{q:Int}(h:(TkF ps q).2=0):kU ps [q]=0:=by
 refine Classical.byContradiction fun hn=>?_
 rw[TkF,if_pos hn]at h;exact hn h
theorem alf(main:Side)(h:Hp)(nums:List Int)(lv:Value)(b k:Nat)(s:Int)(ps:List Pn)(vp:Value)(q:Int)(hl:Sl h fH lv nums)(hk:k≤50000)(hf:Sl h Pn.row vp ps)(hp2:ps.length≤1000):dV prog main aks #[bI b,vp,I q] h [(b,wF lv k s)]
  (fun v A=>∃way Sw k' s',Os dL fH v (zs way) Sw∧(way.length≤41∧∀y∈way,y≤4)∧k'≤k+300∧Sb ((b,wF lv k' s')::Sw) A):=by
 obtain⟨a,cap,rfl⟩:=hf.dA
 refine dV.aG akK rfl (by show 3≤55;decide) [(0,bI b),(1,.slice a ps.length cap),(2,I q)] ⟨rfl,rfl,rfl,trivial⟩ ?_
 refine W.seq<|W.region rfl<|agb rfl rfl rfl<|pq<|W.seq<|W.region rfl<|agb rfl rfl rfl<|pq ?_
 refine W.seq<|W.seq<|W.region rfl<|qm rfl rfl rfl ?_
 refine Ops.NK (cs:= #[I 0,I 1,I 2,I 3,I 6,I 41]) (fun X5=>?_) rfl
 refine cg (A:=[(b,_)]) (.tail .all) (fun h' hE hL=>YM _ h' nums lv b k s [0,1,2,3,6,41] _ (hl.ext hE) (Sl.mk (hL X5 _ (.head _)) rfl (Part.all [I 0,I 1,I 2,I 3,I 6,I 41])) (by omega) (by simp) (by simp)) (fun v A' hv=>?_)
 obtain⟨r,s1,rfl,hr,hsb⟩:=hv
 refine Ops.sb (F':=[(b,wF lv (k+1) s1)]) (.skip rfl hsb) ?_
 obtain⟨i0,rfl,hi0⟩:∃n:Nat,r=n∧n≤41:=by
  simp only[List.mem_cons,List.not_mem_nil,or_false]at hr
  exact⟨r.toNat,by omega,by omega⟩
 refine agb rfl rfl rfl<|pq<|W.block ?_
 refine W.loop (σ:=Nat×List Nat×Value×ah×Nat×Int×Int) (fun t=>t.1+t.2.1.length≤41∧Os dL fH t.2.2.1 (zs t.2.1) t.2.2.2.1∧(∀y∈t.2.1,y≤4)∧t.2.2.2.2.1+3*t.1≤k+200) (fun t=>[(8,I t.1),(7,t.2.2.1),(0,bI b),(1,.slice a ps.length cap),(2,I t.2.2.2.2.2.2)])
  (fun t=>(b,wF lv t.2.2.2.2.1 t.2.2.2.2.2.1)::t.2.2.2.1) (fun t=>t.1) (i0,[],.slice none 0 0,[],k+1,s1,q) ⟨by simpa using hi0,.nil .nil,(fun y hy=>by cases hy),by dsimp only;omega⟩ ⟨rfl,rfl,rfl,rfl,rfl,trivial⟩ .refl ?_
 clear hi0 hr hsb
 rintro⟨i,way,v,S,k1,s2,q⟩ ⟨hi,hS,hy4,hk1⟩
 dsimp only at*
 refine W.seq<|W.seq<|W.region rfl<|qm rfl rfl rfl ?_
 refine agW (rC rfl rfl rfl) rfl ?_
 refine pq ?_
 refine W.bC rfl (fun c16=>?_) (fun c16=>?_)
 ·have hi1:1≤i:=by omega
  refine W.skip<|aA<|W.seq<|W.block<|W.seq<|W.region rfl<|qm rfl rfl rfl<|qm rfl rfl rfl ?_
  refine c0 (fun h' hE hL=>ak_ _ h' ps _ q (hf.ext hE)) (fun v' A' hv=>?_)
  obtain⟨w,S2,rfl,hS2,Oh⟩:=hv
  refine Ops.sb (F':=S2++((b,wF lv k1 s2)::S)) (Oh.app .refl) ?_
  obtain⟨aw,cw,rfl⟩:=hS2.dA
  rw[kT]
  have hTl:=aln (ps:=ps) (q:=q)
  refine qm rfl rfl rfl<|oq (bD rfl rfl rfl) rfl wn rfl rfl<|oq (bD rfl rfl rfl) rfl wn rfl rfl<|agb rfl rfl rfl<|agb rfl rfl rfl<|pq<|W.seq<|W.seq<|W.region rfl ?_
  refine qm rfl rfl rfl ?_
  refine agW (nG rfl rfl rfl) rfl ?_
  refine qm rfl rfl rfl ?_
  refine Ops.ask (fun ads=>?_) (fun ads=>?_)
  ·refine Ops.no ?_
   refine Ops.no ?_
   refine Ops.no ?_
   refine agW (dG rfl rfl rfl) rfl ?_
   refine pq ?_
   refine W.dW ?_
   refine W.seq<|W.region rfl<|qm rfl rfl rfl<|agb rfl rfl rfl<|pq<|W.ret<|aY<|cZ<|aY ?_
   refine aY<|cZ<|aY ?_
   exact mg (vs:=[_]) ⟨way,S,k1,s2,hS,⟨by omega,hy4⟩,by omega,.left .refl hS2.shut⟩
  ·refine oq (aN rfl rfl) rfl (ak rfl rfl rfl) rfl rfl ?_
   refine oq (dM rfl rfl) rfl (ak rfl rfl rfl) rfl rfl ?_
   refine oq (nD rfl rfl rfl) rfl (ak rfl rfl rfl) rfl rfl ?_
   refine agW (iH rfl rfl rfl) rfl ?_
   refine pq ?_
   refine W.bC rfl (fun c31=>?_) (fun c31=>?_)
   ·refine W.seq<|W.region rfl<|qm rfl rfl rfl<|agb rfl rfl rfl<|pq<|W.ret<|aY<|cZ<|aY ?_
    refine aY<|cZ<|aY ?_
    exact mg (vs:=[_]) ⟨way,S,k1,s2,hS,⟨by omega,hy4⟩,by omega,.left .refl hS2.shut⟩
   ·have h0:kU ps [q]=0:=alK (by omega)
    obtain⟨hok,hq0,hq12⟩:=Sj h0
    refine W.skip<|aA<|W.seq<|W.region rfl<|qm rfl rfl rfl<|qm rfl rfl rfl ?_
    refine cg (A:=[(b,wF lv k1 s2)]) (.app .head) (fun h' hE hL=>YM _ h' nums lv b k1 s2 (zs (TkF ps q).1) _ (hl.ext hE) (by have:=hS2.sl (fun b o hb=>hL b o (List.mem_append_left _ hb));rw[kT]at this;exact this) (by omega) (by rw[kT];omega) (by rw[kT];omega)) (fun v' A' hv=>?_)
    obtain⟨r,s3,rfl,hr,afy⟩:=hv
    obtain⟨n0,hn0,rfl⟩:=List.mem_map.1 hr
    have anG:=alo hn0
    have anH:=hok.len
    refine Ops.sb (F':=[(b,wF lv (k1+1) s3)]++S) (.left (afy.app .refl) hS2.shut) ?_
    refine agb rfl rfl rfl<|pq<|W.seq ?_
    refine W.aiB (σ:=Nat×Nat×Int) (fun t=>t.1≤4∧t.2.1≤k1+3) (fun t=>[(11,I t.1),(8,I i),(7,v),(0,bI b),(1,.slice a ps.length cap),(2,I q)]) (fun t=>(b,wF lv t.2.1 t.2.2)::S) ?_ ?_
    ·refine W.seq<|W.region rfl<|qm rfl rfl rfl ?_
     refine cg (A:=[(b,wF lv (k1+1) s3)]) .head (fun h' hE hL=>VP _ h' nums lv b (k1+1) s3 30 (hl.ext hE) (by omega) (by omega)) (fun v' A' hv=>?_)
     obtain⟨rb,s4,rfl,af4⟩:=hv
     refine Ops.sb (F':=[(b,wF lv (k1+1+1) s4)]++S) (af4.app .refl) ?_
     refine pq ?_
     refine W.cond rfl (fun c37=>?_) (fun c37=>?_)
     ·refine W.region rfl<|qm rfl rfl rfl ?_
      refine cg (A:=[(b,wF lv (k1+1+1) s4)]) .head (fun h' hE hL=>UC _ h' nums lv b (k1+1+1) s4 4 (hl.ext hE) (by omega) (by omega)) (fun v' A' hv=>?_)
      obtain⟨r5,s5,rfl,hr5,afA⟩:=hv
      refine Ops.sb (F':=[(b,wF lv (k1+1+1+1) s5)]++S) (afA.app .refl) ?_
      obtain⟨n5,rfl⟩:∃n:Nat,r5=n:=⟨r5.toNat,by omega⟩
      refine agb rfl rfl rfl<|Ops.nil ?_
      exact⟨rfl,rfl,(n5,k1+1+1+1,s5),⟨by dsimp only;omega,by dsimp only;omega⟩,⟨rfl,rfl,rfl,rfl,rfl,rfl,trivial⟩,.refl⟩
     ·refine W.skip ?_
      exact⟨rfl,rfl,(n0,k1+1+1,s4),⟨by dsimp only;omega,by dsimp only;omega⟩,⟨rfl,rfl,rfl,rfl,rfl,rfl,trivial⟩,.refl⟩
    ·rintro⟨n,k2,s6⟩ ⟨hn4,hk2⟩
     dsimp only at*
     obtain⟨av,cv,rfl⟩:=hS.dA
     have hlen:(zs way).length≤41:=by rw[kT];omega
     refine W.seq<|W.region rfl<|qm rfl rfl rfl<|qm rfl rfl rfl ?_
     refine Ops.NK (cs:= #[I n]) (fun am4=>?_) rfl
     refine oe rfl wn rfl rfl (iW (row:=fH) (l':=[(n:Int)]) rfl rfl rfl hS (.tail (.tail .all)) (fun h2 _ hl=>Sl.mk (hl am4 _ (.head _)) rfl (Part.all [I n])) (by simp;omega) (by decide) rfl (fun v' S' hS'=>?_))
     have hS9:Os dL fH v' (zs (way++[n])) S':=by rw[X3];exact hS'
     have hy9:∀y∈way++[n],y≤4:=fun y hy=>by
      rcases List.mem_append.1 hy with h | h
      ·exact hy4 y h
      ·rw[List.mem_singleton.1 h];exact hn4
     refine agb rfl rfl rfl<|pq<|W.seq<|W.region rfl<|qm rfl rfl rfl<|qm rfl rfl rfl ?_
     refine agW (dM rfl rfl) rfl ?_
     refine agW (fO rfl rfl rfl) rfl ?_
     refine pq ?_
     refine W.bC rfl (fun c47=>?_) (fun c47=>?_)
     ·have hnl:n<ps.length:=by omega
      obtain⟨x,hx,-⟩:=has hnl
      have hxk:=hok.pan x (List.mem_of_getElem? hx)
      obtain⟨bb,off,c,E,fz,hv,hb,hxx,hyy,hz⟩:=hf.at hx
      cases hv
      have hx':c.extract (off+n*3) (off+n*3+3)= #[I x.lo,I x.hi,I x.sh]:=hxx
      clear hxx hz
      refine W.region rfl<|qm rfl rfl rfl<|qm rfl rfl rfl ?_
      refine ag3 rfl ?_
      refine ag2 rfl ?_
      refine qm rfl rfl rfl ?_
      refine cp (fun h' hE hL=>ab_ _ h' x q (by omega) (by omega)) ?_
      refine agb rfl rfl rfl<|Ops.nil<|dI<|aA<|W.region rfl<|qm rfl rfl rfl ?_
      refine ag5 rfl ?_
      refine agb rfl rfl rfl<|pq ?_
      exact⟨rfl,(i-1,way++[n],v',S',k2,s6,x.out q),⟨by simp;omega,hS9,hy9,by dsimp only;omega⟩,by dsimp only;omega,⟨lk rfl (show I _=I _ by congr 1;dsimp only;omega),rfl,rfl,rfl,rfl,trivial⟩,.skip rfl .refl⟩
     ·refine W.skip<|dI<|aA<|W.region rfl<|qm rfl rfl rfl ?_
      refine ag5 rfl ?_
      refine agb rfl rfl rfl<|pq ?_
      exact⟨rfl,(i-1,way++[n],v',S',k2,s6,q),⟨by simp;omega,hS9,hy9,by dsimp only;omega⟩,by dsimp only;omega,⟨lk rfl (show I _=I _ by congr 1;dsimp only;omega),rfl,rfl,rfl,rfl,trivial⟩,.skip rfl .refl⟩
 ·refine W.exit<|bP<|bP<|gG<|aA<|W.seq<|W.region rfl<|qm rfl rfl rfl<|agb rfl rfl rfl<|Ops.nil ?_
  refine aA<|W.ret ?_
  exact mg (vs:=[_]) ⟨way,S,k1,s2,hS,⟨by omega,hy4⟩,by omega,.refl⟩
end Go.aS

/- A way gone along: where it leads, what comes out, what stops it. Conditions: none; no program in sight. -/
namespace Go.aS
set_option linter.unusedVariables false
def aj6(ps:List Pn):Nat→List Nat→Nat×Int
 | q,[]=>(q,0)
 | q,p::r=>if ps.length≤p then(q,3)else if P9 ps q p=false then(q,12)else aj6 ps (gy ps p q) r
def aj9(ps:List Pn):Nat→List Nat→List Nat
 | _,[]=>[]
 | q,p::r=>gy ps p q::aj9 ps (gy ps p q) r
theorem akd{ps:List Pn}:∀{w:List Nat} {q:Nat},(aj9 ps q w).length=w.length
 | [],q=>rfl
 | p::r,q=>by simp[aj9,akd]
theorem ak3{ps:List Pn}:∀{w:List Nat} {q:Nat},(aj6 ps q w).2=0∨(aj6 ps q w).2=3∨(aj6 ps q w).2=12
 | [],q=>.inl rfl
 | p::r,q=>by
  unfold aj6
  split
  ·exact .inr (.inl rfl)
  ·split
   ·exact .inr (.inr rfl)
   ·exact ak3
theorem ak7{ps:List Pn}:∀{w:List Nat} {q:Nat},q<13→(aj6 ps q w).1<13
 | [],q,h=>h
 | p::r,q,h=>by
  unfold aj6
  split
  ·exact h
  ·split
   ·exact h
   ·exact ak7 AZ
theorem akE{ps:List Pn}:∀{a b:List Nat} {q:Nat},(aj6 ps q (a++b)).2=0→(aj6 ps q a).2=0∧aj6 ps (aj6 ps q a).1 b=aj6 ps q (a++b)∧aj9 ps q (a++b)=aj9 ps q a++aj9 ps (aj6 ps q a).1 b
 | [],b,q,h=>⟨rfl,rfl,rfl⟩
 | p::r,b,q,h=>by
  rw[List.cons_append]at h⊢
  rw[aj6]at h
  split at h
  ·cases h
  ·rename_i h1
   split at h
   ·cases h
   ·rename_i h2
    obtain⟨h3,h4,h5⟩:=akE h
    have e1:aj6 ps q (p::r)=aj6 ps (gy ps p q) r:=by rw[aj6,if_neg h1,if_neg h2]
    have e2:aj6 ps q (p::(r++b))=aj6 ps (gy ps p q) (r++b):=by rw[aj6,if_neg h1,if_neg h2]
    rw[e1,e2]
    exact⟨h3,h4,by rw[aj9,aj9,h5];rfl⟩
theorem akp{ps:List Pn}:∀{w:List Nat} {q:Nat},(aj6 ps q w).2=0→w≠[]→(aj9 ps q w)[w.length-1]? =some (aj6 ps q w).1
 | [],q,_,h=>absurd rfl h
 | p::r,q,h,_=>by
  rw[aj6]at h
  split at h
  ·cases h
  ·rename_i h1
   split at h
   ·cases h
   ·rename_i h2
    rw[aj6,if_neg h1,if_neg h2,aj9]
    rcases r with _ | ⟨p',r'⟩
    ·rfl
    ·have:=akp h (by simp)
     simpa using this
theorem alp{ps:List Pn}{w:List Nat}{q i:Nat}(h:(aj6 ps q w).2=0)(hi:i<w.length):(aj9 ps q w)[i]? =some (aj6 ps q (w.take (i+1))).1:=by
 have e:=List.take_append_drop (i+1) w
 rw[←e]at h
 obtain⟨h1,-,h3⟩:=akE h
 rw[e]at h3
 have hl:(w.take (i+1)).length=i+1:=by rw[List.length_take];omega
 rw[h3,List.getElem?_append_left (by rw[akd,hl];omega)]
 have:=akp h1 (fun e=>by rw[e]at hl;cases hl)
 rw[hl]at this;exact this
end Go.aS

/- SyrupBoiled. Conditions: none; over the given program. -/
namespace Go.aS
set_option maxRecDepth 100000
set_option maxHeartbeats 4000000
theorem Os.room{α:Type}{row:α→List Value}{w:Nat}[Rw row w]{E:TypeId}{a:Option Addr}{n cap:Nat}{l:List α}{A:ah}(H:Os E row (.slice a n cap) l A):(a.map (·.spot)=some none∨a=none)∧l.length≤cap:=by
 rcases H with⟨rfl,e,-⟩ | ⟨β,c,cap',J,e,-,-,h,-,-⟩
 ·cases e;exact⟨.inr rfl,Nat.le_refl _⟩
 ·cases e;exact⟨.inl rfl,h⟩
theorem Sl.amd{α:Type}{row:α→List Value}{w:Nat}[Rw row w]{h:Hp}{a:Option Addr}{n cap:Nat}{l:List α}(H:Sl h row (.slice a n cap) l){m:Nat}(hm:m≤l.length):Sl h row (.slice a m cap) (l.take m):=by
 obtain⟨a',cap',e,hx⟩:=H
 cases e
 refine⟨a,cap,by rw[List.length_take,Nat.min_eq_left hm],fun hne=>?_⟩
 obtain⟨b,off,c,E,fz,rfl,hb,hp⟩:=hx (by rintro rfl;simp at hne)
 refine⟨b,off,c,E,fz,rfl,hb,?_⟩
 rw[show flat row l=[]++(flat row (l.take m)++flat row (l.drop m)) by rw[List.nil_append,←zk,List.take_append_drop]]at hp
 exact hp.sub
theorem Sl.amg{h:Hp}{a:Option Addr}{n cap:Nat}{l:List Int}(H:Sl h fH (.slice a n cap) l){m:Nat}(hm:m≤l.length)(hc:l.length≤cap):Sl h fH (.slice (if cap=m then a else a.map (·.add (m*1))) (n-m) (cap-m)) (l.drop m):=by
 obtain⟨a',cap',e,hx⟩:=H
 cases e
 refine⟨_,_,by rw[List.length_drop],fun hne=>?_⟩
 have hml:m<l.length:=by
  rcases Nat.lt_or_ge m l.length with h | h
  ·exact h
  ·exact absurd (List.drop_eq_nil_of_le h) hne
 obtain⟨b,off,c,E,fz,rfl,hb,hp⟩:=hx (by rintro rfl;cases hml)
 refine⟨b,off+m*1,c,E,fz,by rw[if_neg (by omega)];exact congrArg some (jE rfl _),hb,?_⟩
 rw[show flat fH l=flat fH (l.take m)++(flat fH (l.drop m)++[]) by rw[List.append_nil,←zk,List.take_append_drop]]at hp
 have:=hp.sub
 rw[jT,List.length_take,Nat.min_eq_left hm]at this
 exact this
theorem akF{ps:List Pn}:∀{w:List Nat} {q i:Nat},((aj6 ps q w).2=0→EO ps q (zs w) i= .ok (aj9 ps q w))∧((aj6 ps q w).2≠0→∃j,EO ps q (zs w) i= .error ((aj6 ps q w).2,j))
 | [],q,i=>⟨fun _=>rfl,fun h=>absurd rfl h⟩
 | p::r,q,i=>by
  have hz:zs (p::r)=(p:Int)::zs r:=rfl
  have ih:=akF (ps:=ps) (w:=r) (q:=gy ps p q) (i:=i+1)
  rw[aj6,hz,EO]
  by_cases h1:ps.length≤p
  ·rw[if_pos h1,if_pos (show outs (p:Int) 0 ((ps.length:Int)-1)from .inr (by omega))]
   exact⟨(fun h=>by cases h),fun _=>⟨i,rfl⟩⟩
  ·rw[if_neg h1,if_neg (show¬outs (p:Int) 0 ((ps.length:Int)-1) by unfold outs;omega),Int.toNat_natCast]
   by_cases h2:P9 ps q p=false
   ·rw[if_pos h2,if_pos h2]
    exact⟨(fun h=>by cases h),fun _=>⟨i,rfl⟩⟩
   ·rw[if_neg h2,if_neg h2]
    refine⟨fun h=>?_,fun h=>?_⟩
    ·rw[ih.1 h];rfl
    ·obtain⟨j,hj⟩:=ih.2 h
     exact⟨j,by rw[hj]⟩
theorem akG{ps:List Pn}{q:Nat}{w:List Nat}(h:nV ps=0)(hq:q<13):Aq ps q (zs w)=if 40<w.length then([],6)else if(aj6 ps q w).2=0 then(aj9 ps q w,0)else([],(aj6 ps q w).2):=by
 have hb:kU ps [(q:Int)]=0:=UH h (by omega) (by omega)
 rw[Aq,if_neg (by rw[hb];simp),kT,Int.toNat_natCast]
 split
 ·rfl
 ·by_cases h0:(aj6 ps q w).2=0
  ·rw[if_pos h0,akF.1 h0]
  ·obtain⟨j,hj⟩:=(akF (i:=0)).2 h0
   rw[if_neg h0,hj]
theorem akz(main:Side)(hS:∀S,main.ok S→∃Fin,S=Mo prog Fin)(hmb:main.b=true)(h:Hp)(nums:List Int)(lv:Value)(Eg:TypeId)(zg:Nat×Nat)(hl:Sl h fH lv nums)(hg:h 0=some (.cells #[Ur qM] Eg zg))(z0:h.z 0):QE prog main ajW #[lv] h (.bool true):=by
 refine QE.aG aj8 rfl (by show 1≤161;decide) [(0,lv)] ⟨rfl,trivial⟩ ?_
 refine W.seq<|W.region rfl<|agb rfl rfl rfl<|pq<|W.seq<|W.region rfl<|qm rfl rfl rfl ?_
 refine c0 (fun h' hE hL=>VQ _ h' nums lv (hl.ext hE)) (fun v A' hv=>?_)
 obtain⟨b,s0,rfl,rfl⟩:=hv
 refine agb rfl rfl rfl<|pq<|W.seq<|W.region rfl<|qm rfl rfl rfl ?_
 refine cg (A:=[(b,wF lv 0 s0)]) .head (fun h' hE hL=>VT _ h' nums lv b 0 s0 4 (hl.ext hE) (by omega) (by omega)) (fun v A' hv=>?_)
 obtain⟨ps,Sp,k',s',hO,⟨hpl,hck⟩,hk',hsb⟩:=hv
 refine Ops.sb (F':=[(b,wF lv k' s')]++Sp) (by simpa using hsb) ?_
 have hps:=aaD hpl hck
 have hok:=iP.yB hps
 have h4:=hok.len
 refine qm rfl rfl rfl ?_
 refine cg (A:=[(b,wF lv k' s')]) .head (fun h' hE hL=>UC _ h' nums lv b k' s' 12 (hl.ext hE) (by omega) (by omega)) (fun v A' hv=>?_)
 obtain⟨q,s2,rfl,hq,Oh⟩:=hv
 refine Ops.sb (F':=Sp++[(b,wF lv (k'+1) s2)]) (Sb.trans (.dF List.perm_append_comm) (Oh.app .refl)) ?_
 obtain⟨q,rfl⟩:∃n:Nat,q=n:=⟨q.toNat,by omega⟩
 have Dn:q<13:=by omega
 refine agb rfl rfl rfl<|agb rfl rfl rfl<|pq ?_
 refine JU hO (fun hz hEz hsl hzs=>?_)
 obtain⟨a,cap,rfl⟩:=hsl.dA
 have hgz:=hEz.1 _ _ hg
 refine W.seq<|W.region rfl<|qm rfl rfl rfl<|qm rfl rfl rfl<|qm rfl rfl rfl ?_
 refine cg (A:=[(b,wF lv (k'+1) s2)]) .all (fun h' hE hL=>alf _ h' nums lv b (k'+1) s2 ps _ q (hl.ext (hEz.trans hE)) (by omega) (hsl.ext hE) (by omega)) (fun v A' hv=>?_)
 obtain⟨w,Sw,k3,s3,hOw,⟨anI,hw4⟩,-,afy⟩:=hv
 refine Ops.sb (F':=Sw++[]) (by rw[List.append_nil];exact(Sb.skip rfl .refl).trans afy) ?_
 obtain⟨av,cv,rfl⟩:=hOw.dA
 obtain⟨hsp,hroom⟩:=hOw.room
 refine agb rfl rfl rfl<|pq ?_
 refine JU hOw (fun hz2 agM ak6 _=>?_)
 rw[kT]at ak6 hroom⊢
 replace hgz:=agM.1 _ _ hgz
 replace hsl:=hsl.ext agM
 refine W.seq<|W.region rfl<|qm rfl rfl rfl<|qm rfl rfl rfl<|qm rfl rfl rfl ?_
 refine c0 (fun h' hE hL=>aah _ h' ps _ q (zs w) _ _ _ (hsl.ext hE) (ak6.ext hE) (hE.1 _ _ hgz)) (fun v A' hv=>?_)
 obtain⟨w2,S,hv1,hS2,af4⟩:=hv
 have hBF:=akG (w:=w) hps Dn
 generalize hBe:Aq ps q (zs w)=BF at*
 obtain⟨G,e⟩:=BF
 dsimp only at hv1 hS2
 subst hv1
 refine Ops.sb (F':=S++[]) (by simpa using af4) ?_
 refine qm rfl rfl rfl<|oq (bD rfl rfl rfl) rfl wn rfl rfl<|oq (bD rfl rfl rfl) rfl wn rfl rfl<|agb rfl rfl rfl<|agb rfl rfl rfl<|pq ?_
 refine JU hS2 (fun hz3 aiX ak0 _=>?_)
 obtain⟨ag,cg9,rfl⟩:=ak0.dA
 rw[kT]at ak0⊢
 replace hgz:=aiX.1 _ _ hgz
 replace hsl:=hsl.ext aiX
 replace ak6:=ak6.ext aiX
 refine W.seq<|W.region rfl<|qm rfl rfl rfl<|agb rfl rfl rfl<|agb rfl rfl rfl<|pq<|W.seq<|W.seq<|W.region rfl ?_
 refine agb rfl rfl rfl<|pq<|W.block ?_
 refine W.loop (σ:=Nat×Nat×Int) (fun t=>t.1≤w.length∧t.2.1<13∧((t.2.2=0∧aj6 ps q w=aj6 ps t.2.1 (w.drop t.1))∨(t.2.2≠0∧aj6 ps q w=(t.2.1,t.2.2)))) (fun t=>[(11,I t.1),(10,I t.2.2),(9,I t.2.1),(8,I e),(7,.slice ag G.length cg9),(6,.slice av w.length cv),(5,I q),(4,.slice a ps.length cap)]) (fun _=>[]) (fun t=>w.length-t.1) (0,q,0) ⟨Nat.zero_le _,Dn,.inl ⟨rfl,rfl⟩⟩ ⟨rfl,rfl,rfl,rfl,rfl,rfl,rfl,rfl,trivial⟩ TW ?_
 rintro⟨i,r,d⟩ ⟨hi,hr,hd⟩
 dsimp only at*
 refine W.seq<|W.seq ?_
 refine W.aiB (σ:=Bool) (fun b=>b=true↔i<w.length∧d=0) (fun b=>[(45,.bool b),(11,I i),(10,I d),(9,I r),(8,I e),(7,.slice ag G.length cg9),(6,.slice av w.length cv),(5,I q),(4,.slice a ps.length cap)]) (fun _=>[]) ?_ ?_
 ·refine W.region rfl<|qm rfl rfl rfl<|qm rfl rfl rfl ?_
  refine agW (dM rfl rfl) rfl ?_
  refine agW (fO rfl rfl rfl) rfl ?_
  refine qm rfl rfl rfl ?_
  refine Ops.ask (fun alJ=>?_) (fun alJ=>?_)
  ·refine oq (aN rfl rfl) rfl (ak rfl rfl rfl) rfl rfl ?_
   refine oq (nD rfl rfl rfl) rfl (ak rfl rfl rfl) rfl rfl ?_
   refine agW (dG rfl rfl rfl) rfl ?_
   refine Ops.nil ?_
   refine⟨rfl,rfl,_,?_,⟨rfl,rfl,rfl,rfl,rfl,rfl,rfl,rfl,rfl,trivial⟩,.refl⟩
   first | (rw[decide_eq_true_iff];omega) | (constructor <;>intro h <;>first | rfl | omega | (exfalso;omega) | (exfalso;cases h;done))
  ·refine Ops.no ?_
   refine Ops.no ?_
   refine agW (iH rfl rfl rfl) rfl ?_
   refine Ops.nil ?_
   refine⟨rfl,rfl,_,?_,⟨rfl,rfl,rfl,rfl,rfl,rfl,rfl,rfl,rfl,trivial⟩,.refl⟩
   first | (rw[decide_eq_true_iff];omega) | (constructor <;>intro h <;>first | rfl | omega | (exfalso;omega) | (exfalso;cases h;done))
 ·intro B7 hB7
  refine W.cond rfl (fun c45=>?_) (fun c45=>?_)
  ·obtain⟨hil,rfl⟩:=hB7.1 c45
   have hd1:aj6 ps q w=aj6 ps r (w.drop i):=by
    rcases hd with h | h
    ·exact h.2
    ·exact absurd rfl h.1
   clear hd
   obtain⟨p,hp,hdr⟩:=has hil
   rw[hdr,aj6]at hd1
   obtain⟨bo,aiK,co,Eo,fzo,hvo,hbo,-,-,hzo⟩:=ak6.at (show(zs w)[i]? =some (p:Int) by rw[zs,List.getElem?_map,hp];rfl)
   cases hvo
   have hco:co[aiK+i*1]? =some (I p):=hzo 0 (by decide)
   have hbr:kU ps [(r:Int)]=0:=UH hps (by omega) (by omega)
   refine W.skip<|aA<|W.seq<|W.block<|W.seq<|W.region rfl<|qm rfl rfl rfl<|qm rfl rfl rfl ?_
   refine c0 (fun h' hE hL=>ala _ h' ps _ r (hsl.ext hE)) (fun v A' hv=>?_)
   obtain⟨w3,S3,rfl,hS3,afA⟩:=hv
   rw[TkF,if_neg (by rw[hbr];simp)]at hS3⊢
   dsimp only at hS3
   refine Ops.sb (F':=S3++[]) (by simpa using afA) ?_
   obtain⟨a3,c3,rfl⟩:=hS3.dA
   rw[kT]
   have hl4:((List.range ps.length).filter fun i=>P9 ps r i).length≤4:=Nat.le_trans (List.length_filter_le ..) (by simpa using h4)
   refine qm rfl rfl rfl<|oq (bD rfl rfl rfl) rfl wn rfl rfl<|oq (bD rfl rfl rfl) rfl wn rfl rfl<|agb rfl rfl rfl<|agb rfl rfl rfl<|pq<|W.seq<|W.seq<|W.region rfl ?_
   refine qm rfl rfl rfl ?_
   refine agW (nG rfl rfl rfl) rfl ?_
   refine pq ?_
   refine W.bC rfl (fun c55=>?_) (fun c55=>?_)
   ·refine W.seq<|W.region rfl<|agb rfl rfl rfl<|pq<|W.ret<|aY<|cZ<|aY<|aY ?_
    refine cZ<|aY ?_
    exact absurd rfl c55
   ·refine W.skip<|aA<|W.seq<|W.region rfl<|qm rfl rfl rfl<|qm rfl rfl rfl ?_
    refine ag3 rfl ?_
    refine agX rfl ?_
    refine qm rfl rfl rfl ?_
    refine agW (dM rfl rfl) rfl ?_
    refine agW (IJ rfl rfl rfl) rfl ?_
    refine pq ?_
    refine W.bC rfl (fun c62=>?_) (fun c62=>?_)
    ·refine W.region rfl<|agb rfl rfl rfl<|Ops.nil<|dI<|aA<|W.region rfl<|qm rfl rfl rfl ?_
     refine ag1 rfl ?_
     refine agb rfl rfl rfl<|pq ?_
     refine⟨rfl,(i+1,r,3),⟨hil,hr,.inr ⟨(show(3:Int)≠0 by decide),?_⟩⟩,by dsimp only;omega,⟨rfl,rfl,rfl,rfl,rfl,rfl,rfl,rfl,trivial⟩,.nil (hS3.shut.app .nil)⟩
     rw[hd1,if_pos (by omega)]
    ·refine W.seq<|W.region rfl<|qm rfl rfl rfl<|qm rfl rfl rfl<|qm rfl rfl rfl ?_
     refine ag3 rfl ?_
     refine agX rfl ?_
     refine c0 (fun h' hE hL=>afl _ h' _ _ p (by have:=hS3.sl (fun b o hb=>hL b o (List.mem_append_left _ hb));rw[kT]at this;exact this) (by rw[kT];omega)) (fun v A' hv=>?_)
     obtain⟨fi,rfl,hfi,hA⟩:=hv
     refine Ops.sb (F':=[]) (.nil (hA.app (hS3.shut.app .nil))) ?_
     have hfw:0≤fi↔P9 ps r p=true:=by
      rw[hfi,zs]
      simp only[List.mem_map,List.mem_filter,List.mem_range]
      constructor
      ·rintro⟨n,⟨-,h⟩,e⟩
       obtain rfl:n=p:=by omega
       exact h
      ·exact fun h=>⟨p,⟨by omega,h⟩,rfl⟩
     refine agW (fO rfl rfl rfl) rfl ?_
     refine pq ?_
     refine W.bC rfl (fun c69=>?_) (fun c69=>?_)
     ·refine W.region rfl<|agb rfl rfl rfl<|Ops.nil<|dI<|aA<|W.region rfl<|qm rfl rfl rfl ?_
      refine ag1 rfl ?_
      refine agb rfl rfl rfl<|pq ?_
      refine⟨rfl,(i+1,r,12),⟨hil,hr,.inr ⟨(show(12:Int)≠0 by decide),?_⟩⟩,by dsimp only;omega,⟨rfl,rfl,rfl,rfl,rfl,rfl,rfl,rfl,trivial⟩,.refl⟩
      rw[hd1,if_neg (by omega),if_pos (by rw[←Bool.not_eq_true,←hfw];omega)]
     ·have htk:P9 ps r p=true:=hfw.1 (by omega)
      obtain⟨x,hx,-⟩:=has (show p<ps.length by omega)
      have hxk:=hok.pan x (List.mem_of_getElem? hx)
      obtain⟨bb,off,c,E,fz,hv,hb,hxx,hyy,hz9⟩:=hsl.at hx
      cases hv
      have hx':c.extract (off+p*3) (off+p*3+3)= #[I x.lo,I x.hi,I x.sh]:=hxx
      clear hxx hz9
      refine W.region rfl<|qm rfl rfl rfl<|qm rfl rfl rfl<|qm rfl rfl rfl ?_
      refine ag3 rfl ?_
      refine agX rfl ?_
      refine ag3 rfl ?_
      refine ag2 rfl ?_
      refine qm rfl rfl rfl ?_
      refine cp (fun h' hE hL=>ab_ _ h' x r (by omega) (by omega)) ?_
      refine agb rfl rfl rfl<|Ops.nil<|dI<|aA<|W.region rfl<|qm rfl rfl rfl ?_
      refine ag1 rfl ?_
      refine agb rfl rfl rfl<|pq ?_
      refine⟨rfl,(i+1,gy ps p r,0),⟨hil,AZ,.inl ⟨rfl,?_⟩⟩,by dsimp only;omega,⟨rfl,rfl,lk rfl (by rw[Vl hx]),rfl,rfl,rfl,rfl,rfl,trivial⟩,.refl⟩
      rw[hd1,if_neg (by omega),if_neg (by rw[htk];simp)]
  ·have htr:aj6 ps q w=(r,d):=by
    rcases hd with⟨hd0,h⟩ | ⟨-,h⟩
    ·have:i=w.length:=by
      have:¬(i<w.length):=fun h9=>by have:=hB7.2 ⟨h9,hd0⟩;rw[c45]at this;cases this
      omega
     rw[h,this,List.drop_length,hd0];rfl
    ·exact h
   have hv9:=ak3 (ps:=ps) (w:=w) (q:=q)
   rw[htr]at hBF hv9
   dsimp only at hBF hv9
   refine W.exit<|bP<|bP<|gG<|aA<|W.seq ?_
   refine W.cut [(10,I e),(9,I r),(8,I e),(7,.slice ag G.length cg9),(6,.slice av w.length cv),(5,I q),(4,.slice a ps.length cap)] [] ?_ ?_
   ·refine W.seq<|W.region rfl<|qm rfl rfl rfl ?_
    refine agW (dM rfl rfl) rfl ?_
    refine agW (rC rfl rfl rfl) rfl ?_
    refine pq ?_
    refine W.bC rfl (fun c81=>?_) (fun c81=>?_)
    ·refine W.region rfl<|agb rfl rfl rfl<|Ops.nil ?_
     rw[if_pos (by omega)]at hBF
     cases hBF
     exact⟨rfl,rfl,⟨rfl,rfl,rfl,rfl,rfl,rfl,rfl,trivial⟩,.refl⟩
    ·refine W.skip ?_
     rw[if_neg (by omega)]at hBF
     have:d=e:=by
      split at hBF
      ·cases hBF;assumption
      ·cases hBF;rfl
     exact⟨rfl,rfl,⟨lk rfl (congrArg (Value.int .i64) this),rfl,rfl,rfl,rfl,rfl,rfl,trivial⟩,.refl⟩
   ·refine W.seq<|W.seq<|W.region rfl<|qm rfl rfl rfl<|qm rfl rfl rfl ?_
    refine KU (nG rfl rfl rfl) (congrArg Value.bool (show decide (e≠e)=false by simp)) rfl wn rfl rfl ?_
    refine pq ?_
    refine W.bZ ?_
    refine W.skip<|aA<|W.seq<|W.seq<|W.region rfl<|qm rfl rfl rfl ?_
    refine agW (nG rfl rfl rfl) rfl ?_
    refine pq ?_
    refine W.bC rfl (fun c86=>?_) (fun c86=>?_)
    ·have hG0:G.length=0:=by
      split at hBF
      ·cases hBF;rfl
      ·split at hBF
       ·cases hBF;omega
       ·cases hBF;rfl
     refine W.seq<|W.region rfl<|qm rfl rfl rfl ?_
     refine agW (dM rfl rfl) rfl ?_
     refine agW (nD rfl rfl rfl) rfl ?_
     refine qm rfl rfl rfl ?_
     refine Ops.ask (fun amj=>?_) (fun amj=>?_)
     ·refine cp (fun h' hE hL=>VW _ h' hS hmb _ _ (hE.1 _ _ (by assumption))) ?_
      refine agW (dG rfl rfl rfl) rfl ?_
      refine agb rfl rfl rfl<|pq<|W.ret<|aY ?_
      first | exact lvq rfl | (exfalso;omega)
     ·refine Ops.no ?_
      refine agW (iH rfl rfl rfl) rfl ?_
      refine agb rfl rfl rfl<|pq<|W.ret<|aY ?_
      first | exact lvq rfl | (exfalso;omega)
    ·obtain⟨rfl,rfl,rfl,anJ⟩:e=0∧d=0∧G=aj9 ps q w∧w.length≤40:=by
      split at hBF
      ·cases hBF;omega
      ·split at hBF
       ·cases hBF;exact⟨rfl,by assumption,rfl,by omega⟩
       ·cases hBF;omega
     have alq:(aj6 ps q w).2=0:=by rw[htr]
     have hGl:=akd (ps:=ps) (w:=w) (q:=q)
     refine W.skip<|aA<|W.seq ?_
     refine W.cut [(7,.slice ag (aj9 ps q w).length cg9),(6,.slice av w.length cv),(5,I q),(4,.slice a ps.length cap)] [] ?_ ?_
     ·refine W.seq<|W.region rfl<|qm rfl rfl rfl ?_
      refine agW (dM rfl rfl) rfl ?_
      refine qm rfl rfl rfl ?_
      refine agW (dM rfl rfl) rfl ?_
      refine KU (nG rfl rfl rfl) (congrArg Value.bool (decide_eq_false (by omega))) rfl wn rfl rfl ?_
      refine qm rfl rfl rfl ?_
      refine oq (aN rfl rfl) rfl (ak rfl rfl rfl) rfl rfl ?_
      refine oq (dM rfl rfl) rfl (ak rfl rfl rfl) rfl rfl ?_
      refine oq (rC rfl rfl rfl) rfl (ak rfl rfl rfl) rfl rfl ?_
      refine oq (aN rfl rfl) rfl (ak rfl rfl rfl) rfl rfl ?_
      refine Ops.ask (fun alL=>?_) (fun alL=>?_)
      ·refine oq (aN rfl rfl) rfl (ak rfl rfl rfl) rfl rfl ?_
       refine oq (aN rfl rfl) rfl (ak rfl rfl rfl) rfl rfl ?_
       refine oq (dM rfl rfl) rfl (ak rfl rfl rfl) rfl rfl ?_
       have hne:w≠[]:=fun e=>absurd (show w.length=0 by rw[e];rfl) (by omega)
       have hlast:=akp alq hne
       rw[htr]at hlast
       obtain⟨bo,aiK,co,Eo,fzo,hvo,hbo,-,-,hzo⟩:=ak0.at (show(zs (aj9 ps q w))[w.length-1]? =some (r:Int) by rw[zs,List.getElem?_map,hlast];rfl)
       cases hvo
       have hco:co[aiK+(w.length-1)*1]? =some (I r):=hzo 0 (by decide)
       have hlt:w.length-1<(aj9 ps q w).length:=by omega
       refine KU (acL rfl rfl rfl) (congrArg (Value.int .i64) (show((aj9 ps q w).length:Int)-1=((w.length-1:Nat):Int) by omega)) rfl (ak rfl rfl rfl) rfl rfl ?_
       first | refine oq (G_ rfl rfl rfl) rfl (ak rfl rfl rfl) rfl rfl ?_ | refine oq (o_ rfl rfl rfl) rfl (ak rfl rfl rfl) rfl rfl ?_
       refine oq (iQ rfl rfl) rfl (ak rfl rfl rfl) rfl rfl ?_
       refine oq (aN rfl rfl) rfl (ak rfl rfl rfl) rfl rfl ?_
       refine KU (nG rfl rfl rfl) (congrArg Value.bool (show decide ((r:Int)≠r)=false by simp)) rfl (ak rfl rfl rfl) rfl rfl ?_
       refine oq (dG rfl rfl rfl) rfl (ak rfl rfl rfl) rfl rfl ?_
       refine agW (iH rfl rfl rfl) rfl ?_
       refine pq ?_
       refine W.bZ ?_
       refine W.skip ?_
       exact⟨rfl,rfl,⟨rfl,rfl,rfl,rfl,trivial⟩,.refl⟩
      ·refine Ops.no ?_
       refine Ops.no ?_
       refine Ops.no ?_
       refine Ops.no ?_
       refine Ops.no ?_
       refine Ops.no ?_
       refine Ops.no ?_
       refine Ops.no ?_
       refine oq (iH rfl rfl rfl) rfl (ak rfl rfl rfl) rfl rfl ?_
       refine agW (iH rfl rfl rfl) rfl ?_
       refine pq ?_
       refine W.bZ ?_
       refine W.skip ?_
       exact⟨rfl,rfl,⟨rfl,rfl,rfl,rfl,trivial⟩,.refl⟩
     ·refine W.seq<|W.seq<|W.region rfl<|agb rfl rfl rfl<|pq<|W.block ?_
      refine W.loop (σ:=Nat) (fun i=>i≤w.length+1) (fun i=>[(14,I i),(7,.slice ag (aj9 ps q w).length cg9),(6,.slice av w.length cv),(5,I q),(4,.slice a ps.length cap)]) (fun _=>[]) (fun i=>w.length+1-i) 0 (Nat.zero_le _) ⟨rfl,rfl,rfl,rfl,rfl,trivial⟩ TW ?_
      rintro i hi
      refine W.seq<|W.seq<|W.region rfl<|qm rfl rfl rfl<|qm rfl rfl rfl ?_
      refine agW (dM rfl rfl) rfl ?_
      refine agW (Lr rfl rfl rfl) rfl ?_
      refine pq ?_
      refine W.bC rfl (fun c116=>?_) (fun c116=>?_)
      ·have hil:i≤w.length:=by omega
       have hzl:(zs w).length=w.length:=kT _
       have hzt:(zs w).take i=zs (w.take i):=by rw[zs,zs,List.map_take]
       have hzd:(zs w).drop i=zs (w.drop i):=by rw[zs,zs,List.map_drop]
       obtain⟨ha1,ha2,ha3⟩:=akE (ps:=ps) (q:=q) (a:=w.take i) (b:=w.drop i) (by rw[List.take_append_drop];exact alq)
       rw[List.take_append_drop]at ha2 ha3
       have am7:(aj6 ps q (w.take i)).1<13:=ak7 Dn
       have hB1:Aq ps q (zs (w.take i))=(aj9 ps q (w.take i),0):=by
        rw[akG hps Dn,if_neg (by rw[List.length_take];omega),if_pos ha1]
       have hB2:Aq ps (aj6 ps q (w.take i)).1 (zs (w.drop i))=(aj9 ps (aj6 ps q (w.take i)).1 (w.drop i),0):=by
        rw[akG hps am7,if_neg (by rw[List.length_drop];omega),if_pos (by rw[ha2];exact alq)]
       refine W.skip<|aA<|W.seq<|W.block<|W.seq<|W.region rfl<|qm rfl rfl rfl<|qm rfl rfl rfl<|qm rfl rfl rfl<|qm rfl rfl rfl ?_
       refine agW (Vb (m:=i) rfl rfl rfl hsp (by omega)) rfl ?_
       refine c0 (fun h' hE hL=>aah _ h' ps _ q (zs (w.take i)) _ _ _ (hsl.ext hE) (hzt▸(ak6.ext hE).amd (by omega)) (hE.1 _ _ hgz)) (fun v A' hv=>?_)
       obtain⟨wa,Sa,rfl,hSa,am8⟩:=hv
       rw[hB1]at hSa⊢
       dsimp only at hSa
       refine Ops.sb (F':=Sa++[]) (by simpa using am8) ?_
       refine qm rfl rfl rfl<|oq (bD rfl rfl rfl) rfl wn rfl rfl<|oq (bD rfl rfl rfl) rfl wn rfl rfl<|agb rfl rfl rfl<|agb rfl rfl rfl<|pq<|W.seq<|W.region rfl<|qm rfl rfl rfl ?_
       refine agb rfl rfl rfl<|pq<|W.seq ?_
       refine W.cut [(17,I (aj6 ps q (w.take i)).1),(16,I 0),(15,wa),(14,I i),(7,.slice ag (aj9 ps q w).length cg9),(6,.slice av w.length cv),(5,I q),(4,.slice a ps.length cap)] (Sa++[]) ?_ ?_
       ·refine W.seq<|W.region rfl<|qm rfl rfl rfl ?_
        refine agW (rC rfl rfl rfl) rfl ?_
        refine pq ?_
        refine W.bC rfl (fun c130=>?_) (fun c130=>?_)
        ·refine W.region rfl<|qm rfl rfl rfl<|qm rfl rfl rfl ?_
         have hat:=alp alq (show i-1<w.length by omega)
         rw[show i-1+1=i by omega]at hat
         obtain⟨bo,aiK,co,Eo,fzo,hvo,hbo,-,-,hzo⟩:=ak0.at (show(zs (aj9 ps q w))[i-1]? =some ((aj6 ps q (w.take i)).1:Int) by rw[zs,List.getElem?_map,hat];rfl)
         cases hvo
         have hco:co[aiK+(i-1)*1]? =some (I (aj6 ps q (w.take i)).1):=hzo 0 (by decide)
         have hlt:i-1<(aj9 ps q w).length:=by omega
         refine KU (acL rfl rfl rfl) (congrArg (Value.int .i64) (show(i:Int)-1=((i-1:Nat):Int) by omega)) rfl wn rfl rfl ?_
         refine ag3 rfl ?_
         refine agX rfl ?_
         refine agb rfl rfl rfl<|Ops.nil ?_
         exact⟨rfl,rfl,⟨rfl,rfl,rfl,rfl,rfl,rfl,rfl,rfl,trivial⟩,.refl⟩
        ·refine W.skip ?_
         obtain rfl:i=0:=by omega
         exact⟨rfl,rfl,⟨rfl,rfl,rfl,rfl,rfl,rfl,rfl,rfl,trivial⟩,.refl⟩
       ·refine W.seq<|W.region rfl<|qm rfl rfl rfl<|qm rfl rfl rfl<|qm rfl rfl rfl<|qm rfl rfl rfl ?_
        refine agW (ak8 (m:=i) rfl rfl rfl) rfl ?_
        refine c0 (fun h' hE hL=>aah _ h' ps _ (aj6 ps q (w.take i)).1 (zs (w.drop i)) _ _ _ (hsl.ext hE) (hzd▸(ak6.ext hE).amg (by omega) (by rw[kT];exact hroom)) (hE.1 _ _ hgz)) (fun v A' hv=>?_)
        obtain⟨wb,Sb9,rfl,hSb,am9⟩:=hv
        rw[hB2]at hSb⊢
        dsimp only at hSb
        refine Ops.sb (F':=Sb9++(Sa++[])) (am9.app .refl) ?_
        refine qm rfl rfl rfl<|oq (bD rfl rfl rfl) rfl wn rfl rfl<|oq (bD rfl rfl rfl) rfl wn rfl rfl<|agb rfl rfl rfl<|agb rfl rfl rfl<|pq<|W.seq<|W.region rfl<|qm rfl rfl rfl ?_
        refine KU (nG rfl rfl rfl) (congrArg Value.bool (show decide ((0:Int)≠0)=false by decide)) rfl wn rfl rfl ?_
        refine qm rfl rfl rfl ?_
        refine oq (aN rfl rfl) rfl (ak rfl rfl rfl) rfl rfl ?_
        refine KU (nG rfl rfl rfl) (congrArg Value.bool (show decide ((0:Int)≠0)=false by decide)) rfl (ak rfl rfl rfl) rfl rfl ?_
        refine agW (iH rfl rfl rfl) rfl ?_
        refine qm rfl rfl rfl ?_
        refine oq (aN rfl rfl) rfl (ak rfl rfl rfl) rfl rfl ?_
        refine c0 (fun h' hE hL=>af0 _ h' (zs (aj9 ps q (w.take i))) wa (hSa.sl (fun b o hb=>hL b o (List.mem_append_right _ (List.mem_append_left _ hb)))) (by rw[kT,akd,List.length_take];omega)) (fun v A' hv=>?_)
        obtain⟨Sd,hSd,am_⟩:=hv
        refine Ops.sb (F':=Sd++(Sb9++(Sa++[]))) (am_.app .refl) ?_
        refine oq (aN rfl rfl) rfl (ak rfl rfl rfl) rfl rfl ?_
        refine oe rfl (ak rfl rfl rfl) rfl rfl (iW (row:=fH) (l':=zs (aj9 ps (aj6 ps q (w.take i)).1 (w.drop i))) rfl rfl rfl hSd .head (fun h2 _ hl=>hSb.sl (fun b o hb=>hl b o (List.mem_append_right _ (List.mem_append_left _ hb)))) (by rw[kT,kT,akd,akd,List.length_take,List.length_drop];omega) (by decide) rfl (fun v' S' hS'=>?_))
        refine oq (aN rfl rfl) rfl (ak rfl rfl rfl) rfl rfl ?_
        refine cp (fun h' hE hL=>Iw _ h' (zs (aj9 ps q w)) _ _ (by have:=hS'.sl (fun b o hb=>hL b o (List.mem_append_left _ hb));rw[←X3,←ha3]at this;exact this) (ak0.ext hE) (by rw[kT];omega)) ?_
        refine oq (xU rfl rfl) rfl (ak rfl rfl rfl) rfl rfl ?_
        refine agW (iH rfl rfl rfl) rfl ?_
        refine pq ?_
        refine W.bZ ?_
        refine W.skip<|dI<|aA<|W.region rfl<|qm rfl rfl rfl ?_
        refine ag1 rfl ?_
        refine agb rfl rfl rfl<|pq ?_
        exact⟨rfl,i+1,by omega,by omega,⟨rfl,rfl,rfl,rfl,rfl,trivial⟩,.nil (hS'.shut.app (hSb.shut.app (hSa.shut.app .nil)))⟩
      ·refine W.exit<|bP<|bP<|gG<|aA<|W.seq<|W.region rfl ?_
       refine cp (fun h' hE hL=>VW _ h' hS hmb _ _ (hE.1 _ _ (by assumption))) ?_
       refine agb rfl rfl rfl<|pq<|W.ret ?_
       exact lvq rfl
end Go.aS

/- SyrupBoiled's card. Conditions: as the card says; over the given program. -/
namespace Go.Proofs.YtkkdgffaohidnaaGreatDoor
open Go Go.aS
set_option maxRecDepth 100000
set_option maxHeartbeats 4000000
theorem akn:joinedFacts prog ajW aj7 Rows.syrupBoiledSpec Rows.syrupBoiledRow=true:=by
 unfold joinedFacts
 repeat' with_reducible refine Bool.and_eq_true_iff.2 ⟨?_,?_⟩
 all_goals first
  | with_reducible exact aci
  | (with_reducible refine makeT ?_;kernel_rfl)
  | (with_reducible refine aeb ?_;kernel_rfl)
  | (as_aux_lemma=>kernel_rfl)
theorem akc:prog.funcNamed Rows.syrupBoiledRow.func=some ajW:=by kernel_rfl
theorem akq:prog.mainIs=some (true, "dbc29bbb9727fbebaf7429f7266f9d82b5a02ec0969210b724e1ed2dac66cc8d".toList):=ad9
theorem akr:true=Rows.syrupBoiledRow.goesBy prog:=by kernel_rfl
theorem ako:true=prog.looks []:=by kernel_rfl
theorem akA:Rows.SyrupBoiledSaid:=
 OpenClaim.holds_of_wide_leaving_time ajW aj7 rfl rfl rfl rfl rfl rfl rfl ⟨rfl,rfl,rfl,rfl,rfl⟩ rfl rfl rfl rfl rfl akc aj8 akn
  (of_decide_eq_true (by kernel_rfl)) (by unfold Func.isWrapper;first | (rw[if_pos (by decide+kernel)];kernel_rfl) | (rw[if_neg (by decide+kernel)];exact⟨rfl,rfl⟩))
  (
   fun os started H enc _ F=>ad7 (s:=Rows.syrupBoiledSpec) os started H enc aj8 (by kernel_rfl) (by kernel_rfl) (by kernel_rfl) (by kernel_rfl) (by kernel_rfl) rfl (fun _=>rfl)
   (OB (enc:=enc) (C:=Tryz.checked) (os:=os) (X:=fun w _=>laidMetH prog J9 w) (laidWorld os) #[.slice none 0 0] 8 rfl (by kernel_rfl) (by kernel_rfl) (by kernel_rfl) (by kernel_rfl) (by kernel_rfl) (laidWorld_met os _))
   (fun main hS hmb h nums lv Eg zg hl hg z0=>akz main hS hmb h nums lv Eg zg hl hg z0) F)

theorem SyrupBoiled_card:Rows.SyrupBoiledCardSaid:=
 VZ .later [] [.handle] true (true, "dbc29bbb9727fbebaf7429f7266f9d82b5a02ec0969210b724e1ed2dac66cc8d") true
  akA (fun _ h=>by cases h) (by kernel_rfl) (fun _ h=>by cases h) syrupBoiled_row_tie rfl ⟨rfl,rfl⟩ akq rfl
  (
   fun f fn hf hfn=>by
   obtain rfl:f=ajW:=(Option.some.inj (akc.symm.trans hf)).symm
   obtain rfl:fn=aj7:=(Option.some.inj (aj8.symm.trans hfn)).symm
   exact⟨ako,fun j t ht=>by
    rw[show(aj7).params= #[nS] by kernel_rfl]at ht
    have h3:t=nS:=by
     rcases j with _ | j
     ·simpa using ht.symm
     ·simp at ht
    subst h3
    exact(show prog.wantsStandIn nS=false by kernel_rfl)⟩)
  akr
#print axioms SyrupBoiled_card
end Go.Proofs.YtkkdgffaohidnaaGreatDoor
