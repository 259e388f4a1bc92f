/- What is reached in so many steps, as the laws find it. Conditions: none; no program in sight. (And 60 texts more.) -/
import Derived.Test.YtkkdgffaohidnaaGreatDoorR10
import Derived.Test.YtkkdgffaohidnaaGreatDoorR13
import Derived.Test.YtkkdgffaohidnaaGreatDoorR11
import Derived.Test.YtkkdgffaohidnaaGreatDoorR12
import Derived.Test.YtkkdgffaohidnaaGreatDoorR09
import Derived.Test.YtkkdgffaohidnaaGreatDoorR07
set_option linter.unusedVariables false
set_option linter.unusedSimpArgs false
set_option linter.unusedSectionVars false

/- What is reached in so many steps, as the laws find it. Conditions: none; no program in sight. -/
namespace Go.aS
set_option linter.unusedVariables false
theorem YU{ps:List Pn}{q o:Nat}{v:List Nat}(hq:q<13)(h:qJ (dO ps 0) q v o):o<13:=by
 rcases List.eq_nil_or_concat v with rfl | ⟨r,p,rfl⟩
 ·have:q=o:=h
  omega
 ·rw[List.concat_eq_append]at h
  obtain⟨m,_,h6⟩:=lW.1 h
  exact F9 _ _ _ h6
end Go.aS

/- Operations that come up in any order and only add to what is owned. Conditions: none; over any program. -/
namespace Go.aS
abbrev Spc:=Nat×Nat×(Value→ah→Prop)
def waits(ops:Array Oper):Nat→Nat→Nat→Bool
 | 0,_,_=>false
 | n+1,k,b=>match ops[k]? with | some o=>o.after.any fun e=>iG e&&(Nat.beq e.on b|| waits ops n e.on b) | none=>false
structure Y4(ops:Array Oper)(listed:Nat)(B:List Nat):Prop where
 cl:Closed ops listed
 low:∀k o,ops[k]? =some o→∀e∈o.after,iG e=true→e.on<k
 or:∀k,k<ops.size→listed.testBit k=false→k∈B∨∀b∈B,waits ops 6 k b=true
 un:∀b∈B,b<ops.size∧listed.testBit b=false
 nd:B.Nodup

theorem Y4.some{ops:Array Oper}{listed:Nat}{B:List Nat}(h:Y4 ops listed B){b:Nat}(hb:b∈B):qx ops listed≠[]:=by
 have key:∀(n k:Nat),k<n→k<ops.size→listed.testBit k=false→∃i,Fq ops listed i=true:=by
  intro n
  induction n with
  | zero=>intro k hk;omega
  | succ n ih=>
   intro k hk hlt hl
   by_cases hr:Fq ops listed k=true
   ·exact⟨k,hr⟩
   ·simp only[Fq,Array.getElem?_eq_getElem hlt,hl,Bool.not_false,Bool.true_and,Array.all_eq_true_iff_forall_mem,Bool.or_eq_true,Bool.not_eq_true']at hr
    have:∃e∈(ops[k]).after,iG e=true∧listed.testBit e.on=false:=by
     refine Classical.byContradiction fun hn=>hr fun e he=>?_
     cases hbe:iG e with
     | false=>exact .inl rfl
     | true=>
      cases ht:listed.testBit e.on with
      | true=>exact .inr rfl
      | false=>exact absurd ⟨e,he,hbe,ht⟩ hn
    obtain⟨e,he,h1,h2⟩:=this
    have:=h.low k _ (Array.getElem?_eq_getElem hlt) e he h1
    exact ih e.on (by omega) (by omega) h2
 obtain⟨i,hi⟩:=key (b+1) b (by omega) (h.un b hb).1 (h.un b hb).2
 intro e
 have:=o8.2 hi
 rw[e]at this
 cases this

theorem Y4.step{ops:Array Oper}{listed j:Nat}{B1 B2:List Nat}(h:Y4 ops listed (B1++j::B2))(hj:Fq ops listed j=true):Y4 ops (listed||| 2 ^ j) (B1++B2):=by
 have hnd:j∉B1++B2:=by
  have:=(List.perm_middle (a:=j) (l₁:=B1) (l₂:=B2)).nodup_iff.1 h.nd
  exact(List.nodup_cons.1 this).1
 refine⟨h.cl.step hj,h.low,fun k hk hl=>?_,fun b hb=>?_,?_⟩
 ·rw[testBit_or,Bool.or_eq_false_iff]at hl
  have hne:j≠k:=by simpa using hl.2
  rcases h.or k hk hl.1 with h' | h'
  ·left
   rcases List.mem_append.1 h' with h' | h'
   ·exact List.mem_append_left _ h'
   ·rcases List.mem_cons.1 h' with h' | h'
    ·exact absurd h'.symm hne
    ·exact List.mem_append_right _ h'
  ·right
   intro b hb
   refine h' b ?_
   rcases List.mem_append.1 hb with hb | hb
   ·exact List.mem_append_left _ hb
   ·exact List.mem_append_right _ (List.mem_cons_of_mem _ hb)
 ·have hb':b∈B1++j::B2:=by
   rcases List.mem_append.1 hb with hb | hb
   ·exact List.mem_append_left _ hb
   ·exact List.mem_append_right _ (List.mem_cons_of_mem _ hb)
  refine⟨(h.un b hb').1,?_⟩
  rw[testBit_or,(h.un b hb').2,Bool.false_or,decide_eq_false_iff_not]
  rintro rfl
  exact hnd hb
 ·have:=(List.perm_middle (a:=j) (l₁:=B1) (l₂:=B2)).nodup_iff.1 h.nd
  exact(List.nodup_cons.1 this).2

def Adds(x:Cx)(ops:Array Oper)(ε:Ev)(s:Spc):Prop:=
 ∃o,ops[s.1]? =some o∧o.dst=some s.2.1∧d_ o.dst x.n=true∧(∀c,o.op≠ .defer c)∧o.guard=none∧∀e,Cons ε e→∀F,Dx x o e F fun v F'=>∃A Lp,Lp.Perm F'∧s.2.2 v A∧Lp=A++F

theorem Cons.back{ε:Ev}{d:Nat}{v:Value}{e:Operand→Value}(h:Cons (upd ε (some d) v) e)(hd:ε d=none):Cons ε e:=fun y u hy=>h y u (by
 cases y with
 | tmp t=>
  simp only[UK,upd]at hy⊢
  cases hb:Nat.beq t d with
  | true=>rw[Nat.eq_of_beq_eq_true hb,hd]at hy;cases hy
  | false=>exact hy
 | _=>exact hy)

section rules
variable{x:Cx}{Q:Post}{ρ:Env}{ds:List Deferred}{F:ah}{ops:Array Oper}{L:ah}{fuel listed:Nat}
theorem Adds.of{i d:Nat}{P:Value→ah→Prop}{op:Op}{ty:TypeId}{pos:String}{bK:Array Edge}(ho:cO ops.toList i=some ⟨some d,op,ty,pos,bK,none⟩)(hd:Nat.blt d x.n=true)(hn:cu op=true)(H:∀F,Ef x ρ ⟨some d,op,ty,pos,bK,none⟩ F fun v F'=>∃A,P v A∧F'=A++F):Adds x ops (look ρ) (i,d,P):=
 ⟨_,aU ho,rfl,hd,gI hn,rfl,fun e he F=>(H F e fun y v hy=>he y v (by rw[DC];exact hy)).mono fun v F' ⟨Lp,p,A,hv,e⟩=>⟨A,Lp,p,hv,e⟩⟩
theorem Adds.call{i d f:Nat}{P:Value→ah→Prop}{args:List Operand}{ts:Array TypeId}{vs:List Value}{ty:TypeId}{pos:String}{bK:Array Edge}(H:∀h',Ext x.h h'→dV x.P x.main f vs.toArray h' [] P)(ho:cO ops.toList i=some ⟨some d,.call ⟨.value (.func f),args.toArray,ts⟩,ty,pos,bK,none⟩:=by rfl)[FB x.P f](hv:evs ρ args=some vs:=by rfl)(hd:Nat.blt d x.n=true:=by rfl):Adds x ops (look ρ) (i,d,P):=
 .of ho hd rfl fun F=>lQ rfl hv (fun h' hE _=>H h' hE) fun v A' hv=>⟨A',hv,rfl⟩
def axt(t:TypeId)(zc:Array Value)(v:Value)(A:ah):Prop:=∃β,v= .pointer (some ⟨β,0,none⟩)∧A=[(β,.cells zc t (0,0))]
theorem Adds.new{i d t s b:Nat}{z:Value}{zc:Array Value}{ty:TypeId}{pos:String}{bK:Array Edge}(ho:cO ops.toList i=some ⟨some d,.alloc t,ty,pos,bK,none⟩:=by rfl)[TI x.P t s b z zc](hd:Nat.blt d x.n=true:=by rfl):Adds x ops (look ρ) (i,d,axt t zc):=
 .of ho hd rfl fun F=>wJ rfl fun β _ _=>⟨_,⟨β,rfl,rfl⟩,rfl⟩
end rules
end Go.aS
namespace Go.aS
section
variable{α:Type}{row:α→List Value}{w:Nat}[rw':Rw row w]
section
variable{x:Cx}{ρ:Env}{F:ah}{o:Oper}{R:Value→ah→Prop}
end
end
section
variable{x:Cx}{S:ah→Prop}{ρ:Env}{o:Oper}
theorem ak8{t E s by':Nat}{z:Value}{zc:Array Value}{y lo:Operand}{a:Option Addr}{k:IntKind}{l cap m:Nat}(ho:o.op= .slice t y (some lo) none none)[TD x.P t (.slice E)][TI x.P E s by' z zc](hy:ev ρ y=some (.slice a l cap))(hh:ev ρ lo=some (.int k (m:Int)))(hm:m≤l:=by omega):Yv x S ρ o (.slice (if cap=m then a else a.map (·.add (m*s))) (l-m) (cap-m)):=fun e he F hF h' hE=>by
 have e1:(0:Int)≤m∧(m:Int)≤l:=by omega
 simp only[execOp,ho,he y _ hy,he lo _ hh,Instr.sliceAt,Instr.slice,Instr.sliceBounds,Instr.sliceBound,asIntOf,bind_eq,au,bind_assoc,bind_pure,Option.map_none,Option.map_some,aC,dH,if_pos e1,Int.toNat_natCast]
 exact⟨rfl,rfl⟩
end
end Go.aS
namespace Go.aS
section
variable{x:Cx}{Q:Post}{ρ:Env}{ds:List Deferred}{ops:Array Oper}{G:ah}{y₁ y₂ y₃ y₄ agp agq:Nat×Obj}{id n:Nat}
theorem W.avQ(hn:ops.size=n)(H:Any x ops [y₁,y₂,y₃,y₄] n 0 Q ρ ds (y₁::y₂::y₃::y₄::G))[MO x.P]:W x (.region id ops true) Q ρ ds (y₁::y₂::y₃::y₄::G):=W.DR _ hn H
end
theorem agQ{α:Type}{l l':List α}(h:∀[DecidableEq α] (a:α),l.count a=l'.count a):l.Perm l':=by
 classical
 exact List.perm_iff_count.2 fun a=>h a
end Go.aS
namespace Go.aS
end Go.aS

/- Slices of slices; makeSlice. Conditions: none; over any program. -/
namespace Go.aS
structure Sv where
  a:Option Addr
  n:Nat
  cap:Nat
abbrev Sv.val(s:Sv):Value:=.slice s.a s.n s.cap
section
variable{α:Type}{row:α→List Value}{w:Nat}[rw':Rw row w]{E:TypeId}
inductive UG(E:TypeId)(row:α→List Value)[Rw row w]:List Sv→List (List α)→ah→Prop
  | nil:UG E row [] [] []
  | cons {s:Sv} {l:List α} {A B:ah} {vs:List Sv} {ls:List (List α)}:Os E row s.val l A→UG E row vs ls B→UG E row (s::vs) (l::ls) (A++B)
theorem UG.len{vs:List Sv}{ls:List (List α)}{A:ah}(h:UG E row vs ls A):vs.length=ls.length:=by
  induction h with
  | nil=>rfl
  | cons _ _ ih=>simp[ih]
theorem UG.shut{vs:List Sv}{ls:List (List α)}{A:ah}(h:UG E row vs ls A):Shut A:=by
  induction h with
  | nil=>exact .nil
  | cons h _ ih=>exact h.shut.app ih
theorem UG.snoc{vs:List Sv}{ls:List (List α)}{A B:ah}{s:Sv}{l:List α}(h:UG E row vs ls A)(hs:Os E row s.val l B):UG E row (vs++[s]) (ls++[l]) (A++B):=by
  induction h with
  | nil=>have:=UG.cons hs .nil;simpa using this
  | cons h1 _ ih=>have:=UG.cons h1 ih;rw[←List.append_assoc]at this;exact this
theorem UG.sl{vs:List Sv}{ls:List (List α)}{A:ah}{h':Hp}(h:UG E row vs ls A)(hL:∀b o,(b,o)∈A→h' b=some o):∀{k:Nat} {s:Sv} {l:List α},vs[k]? =some s→ls[k]? =some l→Sl h' row s.val l:=by
  induction h with
  | nil=>intro k s l hs;simp at hs
  | cons h1 _ ih=>
    intro k s l hs hl
    rcases k with _ | k
    · simp at hs hl;subst hs hl
      exact h1.sl fun b o hb=>hL b o (List.mem_append_left _ hb)
    · simp at hs hl
      exact ih (fun b o hb=>hL b o (List.mem_append_right _ hb)) hs hl
end
/-! makeSlice -/
section
variable{x:Cx}{ρ:Env}{F:ah}{o:Oper}{R:Value→ah→Prop}
theorem G8{t E by' n:Nat}{z:Value}{y y':Operand}(ho:o.op= .makeSlice t y y')[TD x.P t (.slice E)][TI x.P E 1 by' z #[z]](hy:ev ρ y=some (.int .i64 (n:Int)))(hy':ev ρ y'=some (.int .i64 (n:Int)))(hb:by'*n≤2 ^ 48∧n≤1000000)
    (K:∀β,R (.slice (some ⟨β,0,none⟩) n n) ((β,.cells (List.replicate n z).toArray E (0,0))::F)):Ef x ρ o F R:=
  Ef.xW fun e he h' hE=>by
    obtain⟨j,hj,hj1,hj2,hj3,hj4⟩:=TI.out (inferInstance:TI x.P E 1 by' z #[z])
    have hw:IntKind.i64.wrap (n:Int)=n:=nC (by omega) (by omega)
    have c1:¬((n:Int)<0):=by omega
    have c2:¬((by':Int)*(n:Int)>2 ^ 48):=by
                                                         have:((by'*n:Nat):Int)≤2 ^ 48:=by exact_mod_cast hb.1
                                                         rw[Int.natCast_mul]at this;omega
    have c3:¬((n:Int)>n):=by omega
    simp only[execOp,ho,he y _ hy,he y' _ hy',Instr.makeSlice,asInt,asIntOf,bind_eq,au,bind_assoc,bind_pure,aC,dJ hj,hj2,hw]
    simp only[c1,c2,c3,decide_false,Bool.or_false,Bool.false_eq_true,if_false]
    have room:∀{β:Type} {f:Unit→Sem β} {Q':β→ah→Prop},tr x.P h' (f ()) F Q'→tr x.P h' ((askRoom (((n:Int).toNat)*by')).bind f) F Q':=by
      intro β f Q' H
      unfold askRoom
      split
      · exact⟨rfl,H⟩
      · exact H
    refine bJ (room ?_)
    simp only[dH,Int.toNat_natCast,Nat.mul_one]
    have harr:(Array.range n).map (fun i=>(#[z]:Array Value)[i % (#[z]:Array Value).size]!)=(List.replicate n z).toArray:=by
      apply Array.ext
      · simp
      · intro i h1 h2
        simp[Nat.mod_one]
    by_cases h0:n=0
    · subst h0
      have e0:(Array.range 0).map (fun x=>(#[]:Array Value)[x % (#[]:Array Value).size]!)=(List.replicate 0 z).toArray:=by simp
      simp only[if_true,newRow,bind_eq,au,bind_assoc,bind_pure,e0]
      exact wI fun r h1 h2=>⟨_,.inl rfl,K r⟩
    · simp only[if_neg h0,fG,hj4,newRow,bind_eq,au,bind_assoc,bind_pure,harr]
      exact wI fun r h1 h2=>⟨_,.inl rfl,K r⟩
end
end Go.aS

/- Sets of qualities, as the laws keep them. Conditions: none; over the given program. -/
namespace Go.aS
set_option maxRecDepth 100000
set_option maxHeartbeats 4000000
abbrev V9(β:Nat):Value:=.slice (some ⟨β,0,none⟩) 13 13
abbrev bsO(f:Nat→Bool):Obj:=.cells (bA f) RS (0,0)
end Go.aS

/- SyrupLongest. Conditions: none; over the given program. -/
namespace Go.aS
set_option maxRecDepth 100000
set_option maxHeartbeats 4000000
end Go.aS

/- What goes round for ever comes to a ring. Conditions: none; no program in sight. -/
namespace Go.aS
set_option linter.unusedVariables false
end Go.aS

/- All ways of so many steps; the first of them. Conditions: none; no program in sight. -/
namespace Go.aS
set_option linter.unusedVariables false
def af7(m:Nat):Nat→List (List Nat)
 | 0=>[[]]
 | k+1=>(af7 m k).flatMap fun l=>(List.range m).map fun y=>l++[y]
end Go.aS

/- All lists of so many numbers, as a program makes them; all ascending ones. Conditions: none; no program in sight. -/
namespace Go.aS
set_option linter.unusedVariables false
def af9(g:List Int)(y:Nat):List (List Int):=(List.range y).map fun(y:Nat)=>g++[(y:Int)]
def afb(m:Nat)(H:List (List Int))(x:Nat):List (List Int):=(H.take x).flatMap fun g=>af9 g m
def aff(m:Nat):Nat→List (List Int)
 | 0=>[[]]
 | k+1=>afb m (aff m k) (aff m k).length
theorem afL{m:Nat}:∀{k:Nat},aff m k=(af7 m k).map zs
 | 0=>rfl
 | k+1=>by
  rw[aff,afb,List.take_length,afL,af7,List.flatMap_map,List.map_flatMap]
  refine congrArg (fun f=>List.flatMap f _) (funext fun l=>?_)
  rw[af9,List.map_map]
  exact List.map_congr_left fun y _=>by simp[zs]
end Go.aS

/- All lists of so many numbers. Conditions: none; over the given program. -/
namespace Go.aS
set_option maxRecDepth 100000
set_option maxHeartbeats 4000000
end Go.aS

/- Ways, as the laws make them. Conditions: none; over the given program. -/
namespace Go.aS
set_option maxRecDepth 100000
set_option maxHeartbeats 4000000
theorem UG.filter{α:Type}{row:α→List Value}{k:Nat}[Rw row k]{E:TypeId}{vs:List Sv}{ls:List (List α)}{A:ah}(h:UG E row vs ls A)(P:List α→Bool):∃B,UG E row (((vs.zip ls).filter fun x=>P x.2).map (·.1)) (ls.filter P) B∧Sb B A:=by
 induction h with
 | nil=>exact⟨[],.nil,.refl⟩
 | @cons s l A B vs ls h1 h2 ih=>
  obtain⟨C,h3,h4⟩:=ih
  rw[List.zip_cons_cons,List.filter_cons,List.filter_cons]
  cases hP:P l
  ·exact⟨C,by simpa[hP]using h3,h4.left h1.shut⟩
  ·exact⟨A++C,by simpa[hP]using UG.cons h1 h3,Sb.app .refl h4⟩
end Go.aS

/- Comparing truth values. Conditions: none; over any program. -/
namespace Go.aS
section
variable{x:Cx}{ρ:Env}{S:ah→Prop}{o:Oper}{v:Value}
end
end Go.aS

/- Shut blocks are put by. Conditions: none; over any program. -/
namespace Go.aS
theorem W.cut{x:Cx}{c c2:Code}{Q:Post}{ρ:Env}{ds:List Deferred}{F:ah}(L:Env)(G:ah)(H:W x c (fun e ρ' ds' F'=>e= .normal∧ds'=ds∧Sub L ρ'∧Sb G F') ρ ds F)(K:W x c2 Q L ds G):W x c (thn (fun ρ' ds' F'=>W x c2 Q ρ' ds' F') Q) ρ ds F:=
 W.mono H fun e ρ' ds' F' h=>by
  obtain⟨he,hd,hs,hb⟩:=h
  subst he hd
  exact aA (W.env hs (W.sb hb K))
end Go.aS

/- SyrupRing. Conditions: none; over the given program. -/
namespace Go.aS
set_option maxRecDepth 100000
set_option maxHeartbeats 4000000
end Go.aS

/- From where syrups go round for ever: the list. Conditions: none; over the given program. -/
namespace Go.aS
set_option maxRecDepth 100000
set_option maxHeartbeats 4000000
def qsL(f:Nat→Bool):List Nat:=(List.range 13).filter f
theorem ae1(main:Side)(h:Hp)(f:Nat→Bool):dV prog main aaV #[.agg (bA f)] h [] (fun v A=>∃S,Os dL fH v (zs (qsL f)) S∧Sb S A):=by
 refine dV.aG aa2 rfl (by show 1≤18;decide) [(0,.agg (bA f))] ⟨rfl,trivial⟩ ?_
 have hsz:(bA f).size=13:=nX
 have hon:ones (bA f).toList=true:=Un
 refine W.seq<|W.region rfl ?_
 refine Ops.box (cs:=bA f) (fun β1=>?_)
 refine agb rfl rfl rfl<|pq<|W.seq<|W.region rfl<|agb rfl rfl rfl<|pq<|W.seq<|W.seq ?_
 refine W.region rfl ?_
 refine ag2 rfl ?_
 refine qm rfl rfl rfl<|pq<|W.block ?_
 refine W.Js (fun(k:Nat) (v:Value) (S:ah)=>k≤13∧Os dL fH v (zs ((List.range k).filter f)) S) (fun k v S=>[(7,I k),(6,.agg (bA f)),(3,v),(1,.pointer (some ⟨β1,0,none⟩))]) (fun k v S=>S++[(β1,.cells (bA f) aP (0,0))]) (fun k _ _=>13-k) 0 (.slice none 0 0) [] ⟨Nat.zero_le _,.nil .nil⟩ ⟨rfl,rfl,rfl,rfl,trivial⟩ .refl ?_
 rintro k v S ⟨hk,hS⟩
 refine W.seq<|W.region rfl ?_
 refine agW (fO rfl rfl rfl) rfl ?_
 refine pq<|W.seq ?_
 refine W.bC rfl (fun c8=>?_) (fun c8=>?_)
 ·have Vq:k<13:=by omega
  have hlen:(zs ((List.range k).filter f)).length≤13:=by rw[kT];exact Nat.le_trans (List.length_filter_le ..) (by simp;omega)
  refine W.skip<|aA<|W.seq<|W.block<|W.seq<|W.region rfl<|qm rfl rfl rfl ?_
  refine agW (Ti (n:=k) (v:=.bool (f k)) rfl rfl rfl (by omega) (by omega) (by rw[Int.toNat_natCast,Nat.mul_one];exact L9 Vq)) rfl ?_
  refine agb rfl rfl rfl<|agb rfl rfl rfl<|pq<|W.seq<|W.region rfl<|qm rfl rfl rfl<|pq ?_
  refine W.cond rfl (fun c11=>?_) (fun c11=>?_)
  ·refine W.region rfl<|qm rfl rfl rfl<|qm rfl rfl rfl ?_
   refine Ops.NK (cs:= #[I k]) (fun aht=>?_) rfl
   refine oe rfl wn rfl rfl (iW (row:=fH) (l':=[(k:Int)]) rfl rfl rfl hS (.tail .head) (fun h2 _ hl=>Sl.mk (hl aht _ (.head _)) rfl (Part.all [I k])) (by simp;omega) (by decide) rfl (fun v' S' hS'=>?_))
   refine agb rfl rfl rfl<|Ops.nil<|dI<|aA<|W.region rfl ?_
   refine ag1 rfl ?_
   refine qm rfl rfl rfl<|pq ?_
   exact⟨rfl,k+1,v',S',⟨by omega,by rw[List.range_succ,List.filter_append,X3];simpa[zs,c11]using hS'⟩,by omega,⟨rfl,rfl,rfl,rfl,trivial⟩,.skip rfl .refl⟩
  ·refine W.skip<|dI<|aA<|W.region rfl ?_
   refine ag1 rfl ?_
   refine qm rfl rfl rfl<|pq ?_
   exact⟨rfl,k+1,v,S,⟨by omega,by rw[List.range_succ,List.filter_append,X3];simpa[zs,c11]using hS⟩,by omega,⟨rfl,rfl,rfl,rfl,trivial⟩,.refl⟩
 ·refine W.exit<|bP<|bP<|gG<|aA<|W.seq<|W.region rfl<|qm rfl rfl rfl<|agb rfl rfl rfl<|Ops.nil ?_
  refine aA<|W.ret ?_
  obtain rfl:k=13:=by omega
  exact mg (vs:=[v]) ⟨S,hS,.right .refl (.cons rfl .nil)⟩
def aef(ps:List Pn):List Nat×Int:=if nV ps≠0 then([],nV ps)else(qsL fun k=>dD (dO ps 0) 13 k,0)
theorem afo(main:Side)(h:Hp)(ps:List Pn)(vp:Value)(hf:Sl h Pn.row vp ps):dV prog main abZ #[vp] h [] (fun v A=>∃w S,v= .tuple #[w,I (aef ps).2]∧Os dL fH w (zs (aef ps).1) S∧Sb S A):=by
 obtain⟨a,cap,rfl⟩:=hf.dA
 refine dV.aG adO rfl (by show 1≤17;decide) [(0,.slice a ps.length cap)] ⟨rfl,trivial⟩ ?_
 have hbe:kU ps []=nV ps:=by unfold kU;split <;>simp_all
 refine W.seq<|W.region rfl<|agb rfl rfl rfl<|agb rfl rfl rfl<|pq<|W.seq<|W.region rfl<|qm rfl rfl rfl ?_
 refine cp (fun h' hE hL=>Am _ h' ps (.slice a ps.length cap) [] _ (hf.ext hE) .nil (by simp)) ?_
 refine qm rfl rfl rfl<|oq (bD rfl rfl rfl) rfl wn rfl rfl<|oq (bD rfl rfl rfl) rfl wn rfl rfl ?_
 have hcs:∃cs:Array Value,(if kU ps []=0 then xJ (.slice a ps.length cap) 0 else LZ)= .agg cs∧cs.size=2∧ones cs.toList=true:=by
  split
  ·exact⟨_,rfl,rfl,rfl⟩
  ·exact⟨_,rfl,rfl,rfl⟩
 obtain⟨cs,hcs,hcs2,hcs1⟩:=hcs
 rw[hcs,hbe]
 refine Ops.new (fun wC=>?_)
 refine Ops.jP (n:=2) (vs:=cs) ?_ (hy:=by rfl) (hn:=hcs2) (h1:=hcs1)
 refine agb rfl rfl rfl<|pq<|W.seq<|W.seq<|W.region rfl<|qm rfl rfl rfl ?_
 refine agW (nG rfl rfl rfl) rfl ?_
 refine pq ?_
 refine W.bC rfl (fun c12=>?_) (fun c12=>?_)
 ·refine W.seq<|W.region rfl<|qm rfl rfl rfl<|agb rfl rfl rfl<|agb rfl rfl rfl<|pq<|W.ret<|aY ?_
  refine mg (vs:=[_,_]) ?_
  rw[aef,if_pos (by simpa using c12)]
  exact⟨_,[],rfl,.nil .nil,.nil (by repeat(first | exact Shut.nil | refine Shut.cons rfl ?_))⟩
 ·have h0:nV ps=0:=by simpa using c12
  rw[if_pos (by rw[hbe];exact h0)]at hcs
  cases hcs
  refine W.skip<|aA<|W.seq<|W.region rfl ?_
  refine ag2 rfl ?_
  refine cp (fun h' hE hL=>Uo _ h' ps _ 0 (hf.ext hE) (iP.yB h0) (by decide)) ?_
  refine c0 (fun h' hE hL=>ae1 _ h' _) (fun v A' hv=>?_)
  obtain⟨S,hS,hsb⟩:=hv
  refine agb rfl rfl rfl<|agb rfl rfl rfl<|pq<|W.ret ?_
  refine mg (vs:=[_,_]) ?_
  rw[aef,if_neg (by simpa using h0)]
  exact⟨_,S,rfl,hS,.right hsb (.cons rfl .nil)⟩
end Go.aS

/- The shortest way to treacle; what treacle comes of a syrup. Conditions: none; over the given program. -/
namespace Go.aS
set_option maxRecDepth 100000
set_option maxHeartbeats 4000000
def shF(ps:List Pn)(c q:Nat):Option Wy:=(Ah (dO ps c) q).find? fun w=>dY ps w.2
theorem ah_(main:Side)(h:Hp)(ps:List Pn)(vp:Value)(c q:Nat)(hf:Sl h Pn.row vp ps)(hok:iP ps)(hc:c<16)(hq:q<13):dV prog main ag6 #[xJ vp c,I q] h [] (fun v A=>∃w S,v= .tuple #[w,.bool (shF ps c q).isSome]∧(∀u,shF ps c q=some u→Vx S w (zs u.1))∧(shF ps c q=none→w= .slice none 0 0)∧Shut S∧Sb S A):=by
 obtain⟨a,cap,rfl⟩:=hf.dA
 refine dV.aG ahp rfl (by show 2≤17;decide) [(0,xJ (.slice a ps.length cap) c),(1,I q)] ⟨rfl,rfl,trivial⟩ ?_
 refine W.seq<|W.region rfl ?_
 refine Ops.box (cs:= #[.slice a ps.length cap,U8 c]) (fun yR=>?_)
 refine Ops.new (fun wC=>?_)
 refine Ops.new (fun mZ=>?_)
 refine pq<|W.seq<|W.seq<|W.region rfl ?_
 refine ag2 rfl ?_
 refine qm rfl rfl rfl ?_
 refine c0 (fun h' hE hL=>Yt _ h' _ c q rfl) (fun v A' hv=>?_)
 obtain⟨b1,b2,rfl,rfl⟩:=hv
 refine pq<|W.block ?_
 refine W.abW (Val:=adG) (xs:=Ah (dO ps c) q) rfl rfl rfl
  (fun k A=>(∀y∈(Ah (dO ps c) q).take k,dY ps y.2=false)∧A=[(mZ,.cells #[.bool false] RS (0,0)),(wC,.cells #[.slice none 0 0] nS (0,0)),(yR,.cells #[.slice a ps.length cap,U8 c] bG (0,0))])
  (fun k v e A=>e= .ret∧∃w vw,(Ah (dO ps c) q)[k]? =some w∧(∀y∈(Ah (dO ps c) q).take k,dY ps y.2=false)∧dY ps w.2=true∧v= .agg #[vw,I w.2]∧A=[(mZ,.cells #[.bool true] RS (0,0)),(wC,.cells #[vw] nS (0,0))])
  (.tail (.tail .all)) ⟨by simp,rfl⟩ (fun h' hE hL=>Qm _ h' ps _ c q b1 b2 _ _ _ _ (hf.ext hE) hok hc (by omega) (hL b1 _ (.head _)) (hL b2 _ (.tail _ (.head _)))) ?_ ?_
 ·rintro k p v S A1 hp ⟨vw,rfl,hv1,hvR⟩ ⟨hno,rfl⟩ l h1 hE1 hL1 hS1
  obtain⟨av,cv,rfl⟩:=(hvR.2 _ hS1).dA
  have hlen:(zs p.1).length=p.1.length:=kT _
  refine W.region rfl ?_
  refine Ops.new (fun yC=>?_)
  refine Ops.jP (vs:= #[.slice av (zs p.1).length cv,I p.2]) ?_
  refine Ops.nil ?_
  refine⟨rfl,rfl,fun h0 hE0 hL0=>?_⟩
  intro hS0
  refine W.block<|W.seq<|W.region rfl ?_
  refine ag2 rfl ?_
  refine agY rfl ?_
  refine agX rfl ?_
  refine cp (fun h' hE hL=>Si _ h' ps _ c p.2 (hf.ext (hE0.trans hE)) hok.len) ?_
  refine pq ?_
  refine W.cond rfl (fun c14=>?_) (fun c14=>?_)
  ·refine W.seq<|W.region rfl ?_
   refine agY rfl ?_
   refine agX rfl ?_
   refine Ops.yG ?_
   refine Ops.yG ?_
   refine pq<|W.ret<|cZ ?_
   exact⟨rfl,.inr ⟨rfl,_,⟨rfl,p,_,hp,hno,c14,rfl,rfl⟩,.skip rfl (.cons (.cons (.nil (.cons rfl .nil))))⟩⟩
  ·refine W.skip<|dI ?_
   exact⟨rfl,.inl ⟨rfl,_,⟨Qn (p:=fun w:Wy=>dY ps w.2) hp hno (by simpa using c14),rfl⟩,.skip rfl .refl⟩⟩
 ·rintro e2 A2 (⟨rfl,hno,rfl⟩ | ⟨k,p,v,S,B,hp,⟨vw,rfl,hv1,hvR⟩,⟨rfl,w,vw',hw,hno,hr,hv,rfl⟩,rfl⟩) d
  ·refine dI<|aA<|W.seq<|W.region rfl ?_
   refine Ops.yG ?_
   refine Ops.yG ?_
   refine pq<|W.ret ?_
   have e3:shF ps c q=none:=Vz hno
   refine lvm (hl:=At.head) (QJ (hv:=rSc (rSc zJ)) ?_)
   rw[e3]
   exact⟨_,[],rfl,(fun u h=>by cases h),(fun _=>rfl),.nil,.nil (by repeat(first | exact Shut.nil | refine Shut.cons rfl ?_))⟩
  ·obtain rfl:=Option.some.inj (hp.symm.trans hw)
   obtain rfl:vw=vw':=by simpa using hv
   have e3:shF ps c q=some p:=Ut hp hno hr
   refine cZ<|aY ?_
   refine lvm (hl:=At.head) (QJ (hv:=rSc (rSc zJ)) ?_)
   rw[e3]
   exact⟨_,S,rfl,(fun u h=>by cases h;exact hvR),(fun h=>by cases h),hvR.1,.skip rfl (.skip rfl (.skip rfl (.skip rfl (.skip rfl .refl))))⟩
def ahU(ps:List Pn)(q:Int):List Nat×Int:=
 if kU ps [q]≠0 then([],kU ps [q])else
  match shF ps 0 q.toNat with
  | some w=>(w.1,0)
  | none=>([],11)
theorem aib(main:Side)(h:Hp)(ps:List Pn)(vp:Value)(q:Int)(hf:Sl h Pn.row vp ps):dV prog main ahi #[vp,I q] h [] (fun v A=>∃w S,v= .tuple #[w,I (ahU ps q).2]∧Vx S w (zs (ahU ps q).1)∧Sb S A):=by
 obtain⟨a,cap,rfl⟩:=hf.dA
 refine dV.aG ahO rfl (by show 2≤29;decide) [(0,.slice a ps.length cap),(1,I q)] ⟨rfl,rfl,trivial⟩ ?_
 refine W.seq<|W.region rfl<|agb rfl rfl rfl<|agb rfl rfl rfl<|pq<|W.seq<|W.region rfl<|qm rfl rfl rfl<|qm rfl rfl rfl ?_
 refine Ops.NK (cs:= #[I q]) (fun X5=>?_) rfl
 refine cp (fun h' hE hL=>Am _ h' ps _ [q] _ (hf.ext hE) (Sl.mk (hL X5 _ (.head _)) rfl (Part.all [I q])) (by simp)) ?_
 refine qm rfl rfl rfl<|oq (bD rfl rfl rfl) rfl wn rfl rfl<|oq (bD rfl rfl rfl) rfl wn rfl rfl ?_
 have hcs:∃cs:Array Value,(if kU ps [q]=0 then xJ (.slice a ps.length cap) 0 else LZ)= .agg cs∧cs.size=2∧ones cs.toList=true:=by
  split <;>exact⟨_,rfl,rfl,rfl⟩
 obtain⟨cs,hcs,hcs2,hcs1⟩:=hcs
 rw[hcs]
 refine Ops.new (fun yC=>?_)
 refine Ops.jP (n:=2) (vs:=cs) ?_ (hy:=by rfl) (hn:=hcs2) (h1:=hcs1)
 refine agb rfl rfl rfl<|pq<|W.seq<|W.seq<|W.region rfl<|qm rfl rfl rfl ?_
 refine agW (nG rfl rfl rfl) rfl ?_
 refine pq ?_
 refine W.bC rfl (fun c18=>?_) (fun c18=>?_)
 ·have e:ahU ps q=([],kU ps [q]):=by rw[ahU,if_pos (by simpa using c18)]
  refine W.seq<|W.region rfl<|qm rfl rfl rfl<|agb rfl rfl rfl<|agb rfl rfl rfl<|pq<|W.ret<|aY ?_
  refine mg (vs:=[_,_]) ?_
  rw[e]
  exact⟨_,[],rfl,⟨.nil,fun _ _=>.nil⟩,.nil (by repeat(first | exact Shut.nil | refine Shut.cons rfl ?_))⟩
 ·have h0:kU ps [q]=0:=by simpa using c18
  obtain⟨hok,hq0,hq12⟩:=Sj h0
  rw[if_pos h0]at hcs
  cases hcs
  obtain⟨q,rfl⟩:∃n:Nat,q=n:=⟨q.toNat,by omega⟩
  have e:ahU ps q=match shF ps 0 q with | some w=>(w.1,0) | none=>([],11):=by rw[ahU,if_neg (by simpa using h0),Int.toNat_natCast]
  refine W.skip<|aA<|W.seq<|W.region rfl ?_
  refine ag2 rfl ?_
  refine qm rfl rfl rfl ?_
  refine c0 (fun h' hE hL=>ah_ _ h' ps _ 0 q (hf.ext hE) hok (by decide) (by omega)) (fun v A' hv=>?_)
  obtain⟨w,S,rfl,hw1,hw2,hSS,hsb⟩:=hv
  refine qm rfl rfl rfl<|oq (bD rfl rfl rfl) rfl wn rfl rfl<|oq (bD rfl rfl rfl) rfl wn rfl rfl<|agb rfl rfl rfl<|agb rfl rfl rfl<|pq<|W.seq<|W.seq<|W.region rfl ?_
  refine qm rfl rfl rfl ?_
  refine agW (xU rfl rfl) rfl ?_
  refine pq ?_
  refine W.cond rfl (fun c27=>?_) (fun c27=>?_)
  ·have e2:shF ps 0 q=none:=by
    cases hh:shF ps 0 q with
    | none=>rfl
    | some u=>rw[hh]at c27;simp at c27
   rw[e2]at e
   refine W.seq<|W.region rfl<|agb rfl rfl rfl<|agb rfl rfl rfl<|pq<|W.ret<|aY ?_
   refine mg (vs:=[_,_]) ?_
   rw[e]
   exact⟨_,[],rfl,⟨.nil,fun _ _=>.nil⟩,.nil ((Sb.trans (.nil hSS) hsb).shut.app (by repeat(first | exact Shut.nil | refine Shut.cons rfl ?_)))⟩
  ·refine W.skip<|aA<|W.seq<|W.region rfl<|qm rfl rfl rfl<|agb rfl rfl rfl<|agb rfl rfl rfl<|pq<|W.ret ?_
   obtain⟨u,e2⟩:∃u,shF ps 0 q=some u:=by
    cases hh:shF ps 0 q with
    | none=>rw[hh]at c27;simp at c27
    | some u=>exact⟨u,rfl⟩
   rw[e2]at e
   refine mg (vs:=[_,_]) ?_
   rw[e]
   exact⟨_,S,rfl,hw1 u e2,.right hsb (by repeat(first | exact Shut.nil | refine Shut.cons rfl ?_))⟩
def enB(ps:List Pn)(l:List Wy)(e:Nat):Bool:=l.any fun w=>decide (w.2=e)&&dY ps w.2
def EnF(ps:List Pn)(q:Int):List Nat×Int:=if kU ps [q]≠0 then([],kU ps [q])else(qsL (enB ps (Ah (dO ps 0) q.toNat)),0)
theorem aio{ps:List Pn}{l:List Wy}{k:Nat}{w:Wy}(h:l[k]? =some w):(fun i=>if i=w.2 then dY ps w.2 else enB ps (l.take k) i)=enB ps (l.take (k+1)):=by
 funext i
 rw[List.take_add_one,h]
 simp only[enB,Option.toList_some,List.any_append,List.any_cons,List.any_nil,Bool.or_false]
 by_cases hi:i=w.2
 ·subst hi
  rw[if_pos rfl]
  simp only[decide_true,Bool.true_and]
  cases ht:dY ps (w.2:Int)with
  | true=>rw[Bool.or_true]
  | false=>
   rw[Bool.or_false,eq_comm]
   refine List.any_eq_false.2 fun u hu=>?_
   simp only[Bool.and_eq_true,decide_eq_true_eq,not_and]
   intro hu2;rw[hu2,ht];decide
 ·rw[if_neg hi,decide_eq_false (fun h=>hi h.symm),Bool.false_and,Bool.or_false]
theorem aiH(main:Side)(h:Hp)(ps:List Pn)(vp:Value)(q:Int)(hf:Sl h Pn.row vp ps):dV prog main ahw #[vp,I q] h [] (fun v A=>∃w S,v= .tuple #[w,I (EnF ps q).2]∧Os dL fH w (zs (EnF ps q).1) S∧Sb S A):=by
 obtain⟨a,cap,rfl⟩:=hf.dA
 refine dV.aG ahW rfl (by show 2≤33;decide) [(0,.slice a ps.length cap),(1,I q)] ⟨rfl,rfl,trivial⟩ ?_
 refine W.seq<|W.region rfl<|agb rfl rfl rfl<|agb rfl rfl rfl<|pq<|W.seq<|W.region rfl<|qm rfl rfl rfl<|qm rfl rfl rfl ?_
 refine Ops.NK (cs:= #[I q]) (fun X5=>?_) rfl
 refine cp (fun h' hE hL=>Am _ h' ps _ [q] _ (hf.ext hE) (Sl.mk (hL X5 _ (.head _)) rfl (Part.all [I q])) (by simp)) ?_
 refine qm rfl rfl rfl<|oq (bD rfl rfl rfl) rfl wn rfl rfl<|oq (bD rfl rfl rfl) rfl wn rfl rfl ?_
 have hcs:∃cs:Array Value,(if kU ps [q]=0 then xJ (.slice a ps.length cap) 0 else LZ)= .agg cs∧cs.size=2∧ones cs.toList=true:=by
  split <;>exact⟨_,rfl,rfl,rfl⟩
 obtain⟨cs,hcs,hcs2,hcs1⟩:=hcs
 rw[hcs]
 refine Ops.new (fun yC=>?_)
 refine Ops.jP (n:=2) (vs:=cs) ?_ (hy:=by rfl) (hn:=hcs2) (h1:=hcs1)
 refine agb rfl rfl rfl<|pq<|W.seq<|W.seq<|W.region rfl<|qm rfl rfl rfl ?_
 refine agW (nG rfl rfl rfl) rfl ?_
 refine pq ?_
 refine W.bC rfl (fun c18=>?_) (fun c18=>?_)
 ·have e:EnF ps q=([],kU ps [q]):=by rw[EnF,if_pos (by simpa using c18)]
  refine W.seq<|W.region rfl<|qm rfl rfl rfl<|agb rfl rfl rfl<|agb rfl rfl rfl<|pq<|W.ret<|aY ?_
  refine mg (vs:=[_,_]) ?_
  rw[e]
  exact⟨_,[],rfl,.nil .nil,.nil (by repeat(first | exact Shut.nil | refine Shut.cons rfl ?_))⟩
 ·have h0:kU ps [q]=0:=by simpa using c18
  obtain⟨hok,hq0,hq12⟩:=Sj h0
  rw[if_pos h0]at hcs
  cases hcs
  obtain⟨q,rfl⟩:∃n:Nat,q=n:=⟨q.toNat,by omega⟩
  have e:EnF ps q=(qsL (enB ps (Ah (dO ps 0) q)),0):=by rw[EnF,if_neg (by simpa using h0),Int.toNat_natCast]
  refine W.skip<|aA<|W.seq<|W.region rfl ?_
  refine Ops.new (fun yD=>?_)
  refine pq<|W.seq<|W.seq<|W.region rfl ?_
  refine ag2 rfl ?_
  refine qm rfl rfl rfl ?_
  refine c0 (fun h' hE hL=>Yt _ h' _ 0 q rfl) (fun v A' hv=>?_)
  obtain⟨b1,b2,rfl,rfl⟩:=hv
  refine pq<|W.block ?_
  refine W.abW (Val:=adG) (xs:=Ah (dO ps 0) q) rfl rfl rfl
   (fun k A=>A=[(yD,.cells (bA (enB ps ((Ah (dO ps 0) q).take k))) aP (0,0)),(yC,.cells #[.slice a ps.length cap,U8 0] bG (0,0)),(X5,.cells #[I q] dL (0,0))])
   (fun k v e A=>False)
   (.tail (.tail .all)) (eqc (by rfl)) (fun h' hE hL=>Qm _ h' ps _ 0 q b1 b2 _ _ _ _ (hf.ext hE) hok (by decide) (by omega) (hL b1 _ (.head _)) (hL b2 _ (.tail _ (.head _)))) ?_ ?_
  ·rintro k p v S A1 hp ⟨vw,rfl,hv1,hvR⟩ rfl l h1 hE1 hL1 hS1
   obtain⟨av,cv,rfl⟩:=(hvR.2 _ hS1).dA
   have hlen:(zs p.1).length=p.1.length:=kT _
   have akj:p.2<13:=by
    obtain⟨met,H⟩:=aee afX (q:=q) (g:=dO ps 0) F9
    exact YU (by omega) (H.path p (by simpa using List.mem_of_getElem? hp))
   have hsz:0+p.2*1<(bA (enB ps ((Ah (dO ps 0) q).take k))).size:=by rw[nX];omega
   refine W.region rfl ?_
   refine Ops.new (fun Uw=>?_)
   refine Ops.jP (vs:= #[.slice av (zs p.1).length cv,I p.2]) ?_
   refine Ops.nil ?_
   refine⟨rfl,rfl,fun h0 hE0 hL0=>?_⟩
   intro hS0
   refine W.block ?_
   refine W.rE (n:=8) rfl ?_
   refine xq 0 (ay rfl rfl) rfl ?_
   refine xq 1 (iQ rfl rfl) rfl ?_
   first | refine xq 2 (Bf rfl rfl) rfl ?_ | refine xq 2 (zi rfl rfl) rfl ?_
   refine xq 3 (ay rfl rfl) rfl ?_
   refine xq 4 (iQ rfl rfl) rfl ?_
   refine Va (i:=5) (fun h' hE hL=>Si _ h' ps _ 0 p.2 (hf.ext (hE0.trans hE)) hok.len) ?_
   first | refine xq 6 (UN rfl rfl rfl) rfl ?_ | refine xq 6 (Qg rfl rfl rfl) rfl ?_
   refine ae (i:=7) rfl an rfl rfl (eS rfl rfl rfl ?_)
   refine⟨.inl (by kernel_rfl),?_⟩
   refine az ?_
   refine dI ?_
   refine⟨rfl,.inl ⟨rfl,_,rfl,.skip rfl (.eq ?_)⟩⟩
   refine eqc ?_
   rw[show 0+p.2*1=p.2 by omega,Og akj,aio hp]
  ·rintro e2 A2 h9 d
   have h9':e2= .normal∧A2=[(yD,.cells (bA (enB ps ((Ah (dO ps 0) q)))) aP (0,0)),(yC,.cells #[.slice a ps.length cap,U8 0] bG (0,0)),(X5,.cells #[I q] dL (0,0))]:=by
    rcases h9 with⟨h1,h2⟩ | ⟨k,p,v,S,B,hp,hv,hF,-⟩
    ·rw[List.take_length]at h2;exact⟨h1,h2⟩
    ·exact hF.elim
   obtain⟨rfl,rfl⟩:=h9'
   have hs1:(bA (enB ps (Ah (dO ps 0) q))).size=13:=nX
   refine dI<|aA<|W.seq<|W.region rfl ?_
   refine ag2 rfl ?_
   refine c0 (fun h' hE hL=>ae1 _ h' _) (fun v A' hv=>?_)
   obtain⟨S,hS,hsb⟩:=hv
   refine agb rfl rfl rfl<|agb rfl rfl rfl<|pq<|W.ret ?_
   refine lvm (mg (vs:=[_,_]) ?_)
   rw[e]
   exact⟨_,S,rfl,hS,.right hsb (by repeat(first | exact Shut.nil | refine Shut.cons rfl ?_))⟩
end Go.aS

/- Treacle, as the document has it. Conditions: none; over the given program. -/
namespace Go.aS
set_option maxRecDepth 100000
set_option maxHeartbeats 4000000
end Go.aS

/- SyrupShortest. Conditions: none; over the given program. -/
namespace Go.aS
set_option maxRecDepth 100000
set_option maxHeartbeats 4000000
end Go.aS

/- Pans that are forced. Conditions: none; over the given program. -/
namespace Go.aS
set_option maxRecDepth 100000
set_option maxHeartbeats 4000000
def noW(ps:List Pn)(q p:Nat):Bool:=(shF ps (2 ^ p) q).isNone
def FoF(ps:List Pn)(q:Int):List Nat×Int:=
 if kU ps [q]≠0 then([],kU ps [q])else
  match shF ps 0 q.toNat with
  | some _=>((List.range ps.length).filter (noW ps q.toNat),0)
  | none=>([],11)
def aif(ps:List Pn)(q k:Nat):Int→Option Value:=fun x=>if 0≤x∧x<k∧noW ps q x.toNat=true then some (.bool true)else none
theorem ajm{ps:List Pn}{q:Nat}:aif ps q 0=fun _=>none:=by
 funext x;rw[aif,if_neg (by omega)]
theorem ajb{ps:List Pn}{q k:Nat}(h:noW ps q k=true):(fun x=>if x=(k:Int)then some (.bool true)else aif ps q k x)=aif ps q (k+1):=by
 funext x
 simp only[aif]
 by_cases hx:x=(k:Int)
 ·subst hx
  rw[if_pos rfl,if_pos ⟨by omega,by omega,by rw[Int.toNat_natCast];exact h⟩]
 ·rw[if_neg hx]
  by_cases h2:0≤x∧x<(k:Int)∧noW ps q x.toNat=true
  ·rw[if_pos h2,if_pos ⟨h2.1,by omega,h2.2.2⟩]
  ·rw[if_neg h2,if_neg fun h3=>h2 ⟨h3.1,by omega,h3.2.2⟩]
theorem ai4{ps:List Pn}{q k:Nat}(h:noW ps q k=false):(fun x=>if x=(k:Int)then none else if x=(k:Int)then some (.bool true)else aif ps q k x)=aif ps q (k+1):=by
 funext x
 simp only[aif]
 by_cases hx:x=(k:Int)
 ·subst hx
  rw[if_pos rfl,if_neg fun h3=>by rw[Int.toNat_natCast,h]at h3;cases h3.2.2]
 ·rw[if_neg hx,if_neg hx]
  by_cases h2:0≤x∧x<(k:Int)∧noW ps q x.toNat=true
  ·rw[if_pos h2,if_pos ⟨h2.1,by omega,h2.2.2⟩]
  ·rw[if_neg h2,if_neg fun h3=>h2 ⟨h3.1,by omega,h3.2.2⟩]
theorem ajc{ps:List Pn}{q k p:Nat}(h:p<k):(aif ps q k (p:Int)).getD (.bool false)= .bool (noW ps q p):=by
 rw[aif]
 by_cases hp:noW ps q p=true
 ·rw[if_pos ⟨by omega,by omega,by rw[Int.toNat_natCast];exact hp⟩,hp];rfl
 ·rw[if_neg fun h3=>hp (by rw[Int.toNat_natCast]at h3;exact h3.2.2),Bool.eq_false_iff.2 hp];rfl
theorem akS:∀k:Nat,k<4→IntKind.u8.wrap (1*2 ^ (min ((k:Nat):Int).toNat IntKind.u8.bits))=((2 ^ k:Nat):Int):=by decide
theorem ajd{k:Nat}(h:k<4):2 ^ k<16:=Nat.pow_lt_pow_right (a:=2) (by omega) h

theorem ai5(main:Side)(h:Hp)(ps:List Pn)(vp:Value)(q:Int)(hf:Sl h Pn.row vp ps):dV prog main ahn #[vp,I q] h [] (fun v A=>∃w S,v= .tuple #[w,I (FoF ps q).2]∧Os dL fH w (zs (FoF ps q).1) S∧Sb S A):=by
 obtain⟨a,cap,rfl⟩:=hf.dA
 refine dV.aG ahR rfl (by show 2≤69;decide) [(0,.slice a ps.length cap),(1,I q)] ⟨rfl,rfl,trivial⟩ ?_
 refine W.seq<|W.region rfl<|agb rfl rfl rfl<|agb rfl rfl rfl<|pq<|W.seq<|W.region rfl<|qm rfl rfl rfl<|qm rfl rfl rfl ?_
 refine Ops.NK (cs:= #[I q]) (fun akT=>?_) rfl
 refine cp (fun h' hE hL=>Am _ h' ps _ [q] _ (hf.ext hE) (Sl.mk (hL akT _ (.head _)) rfl (Part.all [I q])) (by simp)) ?_
 refine qm rfl rfl rfl<|oq (bD rfl rfl rfl) rfl wn rfl rfl<|oq (bD rfl rfl rfl) rfl wn rfl rfl ?_
 have hcs:∃cs:Array Value,(if kU ps [q]=0 then xJ (.slice a ps.length cap) 0 else LZ)= .agg cs∧cs.size=2∧ones cs.toList=true:=by
  split <;>exact⟨_,rfl,rfl,rfl⟩
 obtain⟨cs,hcs,hcs2,hcs1⟩:=hcs
 rw[hcs]
 refine Ops.new (fun yC=>?_)
 refine Ops.jP (n:=2) (vs:=cs) ?_ (hy:=by rfl) (hn:=hcs2) (h1:=hcs1)
 refine agb rfl rfl rfl<|pq<|W.seq<|W.seq<|W.region rfl<|qm rfl rfl rfl ?_
 refine agW (nG rfl rfl rfl) rfl ?_
 refine pq ?_
 refine W.bC rfl (fun c24=>?_) (fun c24=>?_)
 ·have e:FoF ps q=([],kU ps [q]):=by rw[FoF,if_pos (by simpa using c24)]
  refine W.seq<|W.region rfl<|qm rfl rfl rfl<|agb rfl rfl rfl<|agb rfl rfl rfl<|pq<|W.ret<|aY ?_
  refine mg (vs:=[_,_]) ?_
  rw[e]
  exact⟨_,[],rfl,.nil .nil,.nil (by repeat(first | exact Shut.nil | refine Shut.cons rfl ?_))⟩
 ·have h0:kU ps [q]=0:=by simpa using c24
  obtain⟨hok,hq0,hq12⟩:=Sj h0
  have h4:=hok.len
  rw[if_pos h0]at hcs
  cases hcs
  obtain⟨q,rfl⟩:∃n:Nat,q=n:=⟨q.toNat,by omega⟩
  have e:FoF ps q=match shF ps 0 q with | some _=>((List.range ps.length).filter (noW ps q),0) | none=>([],11):=by rw[FoF,if_neg (by simpa using h0),Int.toNat_natCast]
  refine W.skip<|aA<|W.seq<|W.seq<|W.region rfl ?_
  refine ag2 rfl ?_
  refine qm rfl rfl rfl ?_
  refine c0 (fun h' hE hL=>ah_ _ h' ps _ 0 q (hf.ext hE) hok (by decide) (by omega)) (fun v A' hv=>?_)
  obtain⟨w,S,rfl,-,-,hSS,hsb⟩:=hv
  refine Ops.sb (F':=[(yC,.cells #[.slice a ps.length cap,U8 0] bG (0,0))]) (.left (.right (B:=[_]) .refl (.cons rfl .nil)) (Sb.trans (.nil hSS) hsb).shut) ?_
  refine qm rfl rfl rfl<|oq (bD rfl rfl rfl) rfl wn rfl rfl<|oq (bD rfl rfl rfl) rfl wn rfl rfl<|agb rfl rfl rfl<|agb rfl rfl rfl<|pq<|W.seq<|W.region rfl<|qm rfl rfl rfl ?_
  refine agW (xU rfl rfl) rfl ?_
  refine pq ?_
  refine W.cond rfl (fun c33=>?_) (fun c33=>?_)
  ·have e2:shF ps 0 q=none:=by
    cases hh:shF ps 0 q with
    | none=>rfl
    | some u=>rw[hh]at c33;simp at c33
   rw[e2]at e
   refine W.seq<|W.region rfl<|agb rfl rfl rfl<|agb rfl rfl rfl<|pq<|W.ret<|aY ?_
   refine mg (vs:=[_,_]) ?_
   rw[e]
   exact⟨_,[],rfl,.nil .nil,.nil (by repeat(first | exact Shut.nil | refine Shut.cons rfl ?_))⟩
  ·obtain⟨u,e2⟩:∃u,shF ps 0 q=some u:=by
    cases hh:shF ps 0 q with
    | none=>rw[hh]at c33;simp at c33
    | some u=>exact⟨u,rfl⟩
   rw[e2]at e
   refine W.skip<|aA<|W.seq<|W.region rfl ?_
   refine oe rfl wn rfl rfl (Md rfl (fun ahd hn hm=>?_))
   refine agb rfl rfl rfl<|pq<|W.seq<|W.seq<|W.region rfl<|qm rfl rfl rfl ?_
   refine agW (dM rfl rfl) rfl ?_
   refine qm rfl rfl rfl<|pq<|W.block ?_
   refine W.loop (σ:=Nat×Array MapEntry×Nat×Nat) (fun s=>s.1≤ps.length∧ER s.2.1 (aif ps q s.1)∧s.2.2.2<16) (fun s=>[(37,I s.1),(36,I ps.length),(10,.map (some ahd)),(6,.pointer (some ⟨yC,0,none⟩)),(1,I q),(0,.slice a ps.length cap)])
    (fun s=>[(ahd,.map s.2.1 s.2.2.1),(yC,.cells #[.slice a ps.length cap,U8 s.2.2.2] bG (0,0))]) (fun s=>ps.length-s.1) (0, #[],0,0) ⟨Nat.zero_le _,by show ER #[] (aif ps q 0);rw[ajm];exact ER.nil,by decide⟩ ⟨rfl,rfl,rfl,rfl,rfl,rfl,trivial⟩ .refl ?_
   rintro⟨k,es,ck,c⟩ ⟨hk,hM,hc⟩
   dsimp only at*
   refine W.seq<|W.region rfl ?_
   refine agW (fO rfl rfl rfl) rfl ?_
   refine pq<|W.seq ?_
   refine W.bC rfl (fun c38=>?_) (fun c38=>?_)
   ·have hkl:k<ps.length:=by omega
    refine W.skip<|aA<|W.seq<|W.block<|W.seq<|W.region rfl<|qm rfl rfl rfl<|agb rfl rfl rfl<|pq ?_
    refine W.seq<|W.region rfl<|qm rfl rfl rfl<|qm rfl rfl rfl ?_
    refine oe rfl wn rfl rfl (SE rfl rfl rfl rfl .head hM (fun es2 ck2 hM2=>?_))
    refine pq<|W.seq<|W.region rfl<|qm rfl rfl rfl ?_
    refine KU (Wx rfl rfl rfl (by omega)) (congrArg (Value.int .u8) (akS k (by omega))) rfl wn rfl rfl ?_
    refine agY rfl ?_
    refine Ops.yG ?_
    refine pq<|W.seq<|W.region rfl ?_
    refine ag2 rfl ?_
    refine qm rfl rfl rfl ?_
    refine c0 (fun h' hE hL=>ah_ _ h' ps _ (2 ^ k) q (hf.ext hE) hok (ajd (by omega)) (by omega)) (fun v A' hv=>?_)
    obtain⟨w,S,rfl,-,-,hSS,hsb⟩:=hv
    refine Ops.sb (F':=[(ahd,.map es2 ck2),(yC,.cells #[.slice a ps.length cap,U8 (2 ^ k)] bG (0,0))]) (.left .refl (Sb.trans (.nil hSS) hsb).shut) ?_
    refine qm rfl rfl rfl<|oq (bD rfl rfl rfl) rfl wn rfl rfl<|oq (bD rfl rfl rfl) rfl wn rfl rfl<|agb rfl rfl rfl<|agb rfl rfl rfl<|pq<|W.seq<|W.region rfl<|qm rfl rfl rfl ?_
    refine pq ?_
    refine W.cond rfl (fun c51=>?_) (fun c51=>?_)
    ·refine W.region rfl<|qm rfl rfl rfl<|qm rfl rfl rfl ?_
     refine oe rfl wn rfl rfl (ajk rfl rfl rfl .head hM2 (fun es3 ck3 hM3=>?_))
     refine Ops.nil<|dI<|aA<|W.region rfl ?_
     refine ag1 rfl ?_
     refine qm rfl rfl rfl<|pq ?_
     have hw:noW ps q k=false:=by rw[noW,←Option.not_isSome,c51];rfl
     rw[ai4 hw]at hM3
     exact⟨rfl,(k+1,es3,ck3,2 ^ k),⟨hkl,hM3,ajd (by omega)⟩,by dsimp only;omega,⟨rfl,rfl,rfl,rfl,rfl,rfl,trivial⟩,.refl⟩
    ·refine W.skip<|dI<|aA<|W.region rfl ?_
     refine ag1 rfl ?_
     refine qm rfl rfl rfl<|pq ?_
     have hw:noW ps q k=true:=by rw[noW,←Option.not_isSome];simpa using c51
     rw[ajb hw]at hM2
     exact⟨rfl,(k+1,es2,ck2,2 ^ k),⟨hkl,hM2,ajd (by omega)⟩,by dsimp only;omega,⟨rfl,rfl,rfl,rfl,rfl,rfl,trivial⟩,.refl⟩
   ·obtain rfl:k=ps.length:=by omega
    refine W.exit<|bP<|bP<|gG<|aA<|W.seq<|W.region rfl<|agb rfl rfl rfl<|pq ?_
    refine W.seq<|W.seq<|W.region rfl<|qm rfl rfl rfl ?_
    refine agW (dM rfl rfl) rfl ?_
    refine qm rfl rfl rfl<|pq<|W.block ?_
    refine W.Js (fun(k:Nat) (v:Value) (S:ah)=>k≤ps.length∧Os dL fH v (zs ((List.range k).filter (noW ps q))) S) (fun k v S=>[(57,I k),(56,I ps.length),(14,v),(10,.map (some ahd)),(0,.slice a ps.length cap)]) (fun k v S=>S++[(ahd,.map es ck)]) (fun k _ _=>ps.length-k) 0 (.slice none 0 0) [] ⟨Nat.zero_le _,.nil .nil⟩ ⟨rfl,rfl,rfl,rfl,rfl,trivial⟩ (.cons (.skip rfl .refl)) ?_
    rintro k v S ⟨hk2,hS⟩
    refine W.seq<|W.region rfl ?_
    refine agW (fO rfl rfl rfl) rfl ?_
    refine pq<|W.seq ?_
    refine W.bC rfl (fun c58=>?_) (fun c58=>?_)
    ·have hkl:k<ps.length:=by omega
     have hlen:(zs ((List.range k).filter (noW ps q))).length≤4:=by rw[kT];exact Nat.le_trans (List.length_filter_le ..) (by simp;omega)
     refine W.skip<|aA<|W.seq<|W.block<|W.seq<|W.region rfl<|qm rfl rfl rfl<|agb rfl rfl rfl<|pq ?_
     refine W.seq<|W.region rfl<|qm rfl rfl rfl<|qm rfl rfl rfl ?_
     refine oe rfl wn rfl rfl (aaj rfl rfl rfl (.app .head) hM ?_)
     rw[ajc hkl]
     refine pq ?_
     refine W.cond rfl (fun c62=>?_) (fun c62=>?_)
     ·refine W.region rfl<|qm rfl rfl rfl<|qm rfl rfl rfl ?_
      refine Ops.NK (cs:= #[I k]) (fun akV=>?_) rfl
      refine oe rfl wn rfl rfl (iW (row:=fH) (l':=[(k:Int)]) rfl rfl rfl hS (.tail .head) (fun h2 _ hl=>Sl.mk (hl akV _ (.head _)) rfl (Part.all [I k])) (by simp;omega) (by decide) rfl (fun v' S' hS'=>?_))
      refine agb rfl rfl rfl<|Ops.nil<|dI<|aA<|W.region rfl ?_
      refine ag1 rfl ?_
      refine qm rfl rfl rfl<|pq ?_
      exact⟨rfl,k+1,v',S',⟨by omega,by rw[List.range_succ,List.filter_append,X3];simpa[zs,c62]using hS'⟩,by omega,⟨rfl,rfl,rfl,rfl,rfl,trivial⟩,.skip rfl .refl⟩
     ·refine W.skip<|dI<|aA<|W.region rfl ?_
      refine ag1 rfl ?_
      refine qm rfl rfl rfl<|pq ?_
      exact⟨rfl,k+1,v,S,⟨by omega,by rw[List.range_succ,List.filter_append,X3];simpa[zs,c62]using hS⟩,by omega,⟨rfl,rfl,rfl,rfl,rfl,trivial⟩,.refl⟩
    ·refine W.exit<|bP<|bP<|gG<|aA<|W.seq<|W.region rfl<|qm rfl rfl rfl<|agb rfl rfl rfl<|agb rfl rfl rfl ?_
     refine pq<|W.ret ?_
     obtain rfl:k=ps.length:=by omega
     refine mg (vs:=[_,_]) ?_
     rw[e]
     exact⟨_,S,rfl,hS,.right .refl (.cons rfl .nil)⟩
end Go.aS

/- Pans that are shut; where one comes without them. Conditions: none; no program in sight. -/
namespace Go.aS
set_option linter.unusedVariables false
def stp(g:yV)(q o:Nat):Prop:=∃p,(p,o)∈g q
theorem aix{g g':yV}(h:∀q o,stp g q o↔stp g' q o):∀{n q e:Nat},(∃v:List Nat,v.length=n∧qJ g q v e)→∃v:List Nat,v.length=n∧qJ g' q v e
 | 0,q,e,⟨v,h1,h2⟩=>by
  obtain rfl:=List.length_eq_zero_iff.1 h1
  exact⟨[],rfl,h2⟩
 | n+1,q,e,⟨v,h1,h2⟩=>by
  rcases v with _ | ⟨p,r⟩
  ·cases h1
  ·obtain⟨o,h3,h4⟩:=h2
   obtain⟨p',h5⟩:=(h q o).1 ⟨p,h3⟩
   obtain⟨r',h6,h7⟩:=aix h (n:=n) ⟨r,by simpa using h1,h4⟩
   exact⟨p'::r',by simp[h6],o,h5,h7⟩
theorem aiR{g g':yV}(h:∀q o,stp g q o↔stp g' q o){n q e:Nat}:(∃v:List Nat,v.length=n∧qJ g q v e)↔∃v:List Nat,v.length=n∧qJ g' q v e:=
 ⟨aix h,aix fun q o=>(h q o).symm⟩
theorem ajH{g g':yV}(h:∀q o,stp g q o↔stp g' q o){n q:Nat}:dD g n q=dD g' n q:=by
 rw[Bool.eq_iff_iff,JJ,JJ]
 constructor <;>rintro⟨v,e,h1,h2⟩
 ·obtain⟨v',h3,h4⟩:=(aiR h).1 ⟨v,h1,h2⟩;exact⟨v',e,h3,h4⟩
 ·obtain⟨v',h3,h4⟩:=(aiR h).2 ⟨v,h1,h2⟩;exact⟨v',e,h3,h4⟩

theorem ai2{ps:List Pn}(h4:ps.length≤4){c q o:Nat}:stp (dO ps c) q o↔∃i x,ps[i]? =some x∧c.testBit i=false∧x.takes q=true∧o=(x.out q).toNat:=by
 unfold stp
 simp only[Um,Ak]
 constructor
 ·rintro⟨i,⟨h1,h2,h3⟩,rfl⟩
  unfold P9 at h2
  split at h2
  ·rename_i x hx
   exact⟨i,x,hx,h3,h2,by rw[gy,hx]⟩
  ·cases h2
 ·rintro⟨i,x,hx,h3,h2,rfl⟩
  refine⟨i,⟨?_,?_,h3⟩,by rw[gy,hx]⟩
  ·obtain⟨h,-⟩:=List.getElem?_eq_some_iff.1 hx;omega
  ·unfold P9;rw[hx];exact h2
end Go.aS

/- Pans shut, as the document has it. Conditions: none; over the given program. -/
namespace Go.aS
set_option maxRecDepth 100000
set_option maxHeartbeats 4000000
end Go.aS

/- SyrupForced. Conditions: none; over the given program. -/
namespace Go.aS
set_option maxRecDepth 100000
set_option maxHeartbeats 4000000
end Go.aS

/- All ascending lists of so many numbers, as a program makes them. Conditions: none; no program in sight. -/
namespace Go.aS
set_option linter.unusedVariables false
set_option maxRecDepth 100000
end Go.aS

/- All ascending lists of so many numbers. Conditions: none; over the given program. -/
namespace Go.aS
set_option maxRecDepth 100000
set_option maxHeartbeats 4000000
theorem UG.os{α:Type}{row:α→List Value}{w:Nat}[Rw row w]{E:TypeId}{vs:List Sv}{ls:List (List α)}{A:ah}(h:UG E row vs ls A):∀{k:Nat} {s:Sv} {l:List α},vs[k]? =some s→ls[k]? =some l→∃B,Os E row s.val l B∧∀p∈B,p∈A:=by
 induction h with
 | nil=>intro k s l hs;simp at hs
 | cons h1 _ ih=>
  intro k s l hs hl
  rcases k with _ | k
  ·simp at hs hl;subst hs hl
   exact⟨_,h1,fun p hp=>List.mem_append_left _ hp⟩
  ·simp at hs hl
   obtain⟨B,h2,h3⟩:=ih hs hl
   exact⟨B,h2,fun p hp=>List.mem_append_right _ (h3 p hp)⟩
end Go.aS

/- SyrupClosed. Conditions: none; over the given program. -/
namespace Go.aS
set_option maxRecDepth 100000
set_option maxHeartbeats 4000000
end Go.aS

/- SyrupMore. Conditions: none; over the given program. -/
namespace Go.aS
set_option maxRecDepth 100000
set_option maxHeartbeats 4000000
end Go.aS

/- Pans that are checked, and which of them take a syrup, as the document has it and as the program has it. Conditions: none; over the given program. -/
namespace Go.aS
set_option maxRecDepth 100000
set_option maxHeartbeats 4000000
def TkF(ps:List Pn)(q:Int):List Nat×Int:=if kU ps [q]≠0 then([],kU ps [q])else((List.range ps.length).filter fun i=>P9 ps q i,0)
theorem ale{ps:List Pn}{q:Nat}(h4:ps.length≤4):bQ ps 0 q=(List.range ps.length).filter fun i=>P9 ps q i:=by
 have e:List.range 4=List.range ps.length++(List.range (4-ps.length)).map (ps.length+ ·):=by
  rw[←List.range_add];congr 1;omega
 rw[bQ,e,List.filter_append]
 have h1:((List.range (4-ps.length)).map (ps.length+ ·)).filter (fun i=>P9 ps q i&& !(0:Nat).testBit i)=[]:=by
  refine List.filter_eq_nil_iff.2 fun i hi=>?_
  obtain⟨j,-,rfl⟩:=List.mem_map.1 hi
  unfold P9
  rw[List.getElem?_eq_none (by omega)];simp
 rw[h1,List.append_nil]
 exact List.filter_congr fun i _=>by simp
theorem ala(main:Side)(h:Hp)(ps:List Pn)(vp:Value)(q:Int)(hf:Sl h Pn.row vp ps):dV prog main akh #[vp,I q] h [] (fun v A=>∃w S,v= .tuple #[w,I (TkF ps q).2]∧Os dL fH w (zs (TkF ps q).1) S∧Sb S A):=by
 obtain⟨a,cap,rfl⟩:=hf.dA
 refine dV.aG akB rfl (by show 2≤21;decide) [(0,.slice a ps.length cap),(1,I q)] ⟨rfl,rfl,trivial⟩ ?_
 refine W.seq<|W.region rfl<|agb rfl rfl rfl<|agb rfl rfl rfl<|pq<|W.seq<|W.region rfl<|qm rfl rfl rfl<|qm rfl rfl rfl ?_
 refine Ops.NK (cs:= #[I q]) (fun KY=>?_) rfl
 refine cp (fun h' hE hL=>Am _ h' ps _ [q] _ (hf.ext hE) (Sl.mk (hL KY _ (.head _)) rfl (Part.all [I q])) (by simp)) ?_
 refine qm rfl rfl rfl<|oq (bD rfl rfl rfl) rfl wn rfl rfl<|oq (bD rfl rfl rfl) rfl wn rfl rfl ?_
 have hcs:∃cs:Array Value,(if kU ps [q]=0 then xJ (.slice a ps.length cap) 0 else LZ)= .agg cs∧cs.size=2∧ones cs.toList=true:=by
  split <;>exact⟨_,rfl,rfl,rfl⟩
 obtain⟨cs,hcs,hcs2,hcs1⟩:=hcs
 rw[hcs]
 refine Ops.new (fun yC=>?_)
 refine Ops.jP (n:=2) (vs:=cs) ?_ (hy:=by rfl) (hn:=hcs2) (h1:=hcs1)
 refine agb rfl rfl rfl<|pq<|W.seq<|W.seq<|W.region rfl<|qm rfl rfl rfl ?_
 refine agW (nG rfl rfl rfl) rfl ?_
 refine pq ?_
 refine W.bC rfl (fun c16=>?_) (fun c16=>?_)
 ·refine W.seq<|W.region rfl<|qm rfl rfl rfl<|agb rfl rfl rfl<|agb rfl rfl rfl<|pq<|W.ret<|aY ?_
  refine mg (vs:=[_,_]) ?_
  rw[TkF,if_pos (by assumption)]
  exact⟨_,[],rfl,.nil .nil,.nil (by repeat(first | exact Shut.nil | refine Shut.cons rfl ?_))⟩
 ·have h0:kU ps [q]=0:=by simpa using c16
  obtain⟨hok,hq0,hq12⟩:=Sj h0
  rw[if_pos h0]at hcs
  cases hcs
  obtain⟨q,rfl⟩:∃n:Nat,q=n:=⟨q.toNat,by omega⟩
  refine W.skip<|aA<|W.seq<|W.region rfl ?_
  refine ag2 rfl ?_
  refine qm rfl rfl rfl ?_
  refine c0 (fun h' hE hL=>EM _ h' ps _ 0 q (hf.ext hE) hok.len (by decide)) (fun v A' hv=>?_)
  obtain⟨S,hS,hsb⟩:=hv
  rw[ale hok.len]at hS
  refine agb rfl rfl rfl<|agb rfl rfl rfl<|pq<|W.ret ?_
  refine mg (vs:=[_,_]) ?_
  rw[TkF,if_neg (by assumption)]
  exact⟨_,S,rfl,hS,.right hsb (by repeat(first | exact Shut.nil | refine Shut.cons rfl ?_))⟩
end Go.aS

/- Ways made of numbers. Conditions: none; over the given program. -/
namespace Go.aS
set_option maxRecDepth 100000
set_option maxHeartbeats 4000000
end Go.aS

/- A way gone along: where it leads, what comes out, what stops it. Conditions: none; no program in sight. -/
namespace Go.aS
set_option linter.unusedVariables false
end Go.aS

/- SyrupBoiled. Conditions: none; over the given program. -/
namespace Go.aS
set_option maxRecDepth 100000
set_option maxHeartbeats 4000000
theorem Os.room{α:Type}{row:α→List Value}{w:Nat}[Rw row w]{E:TypeId}{a:Option Addr}{n cap:Nat}{l:List α}{A:ah}(H:Os E row (.slice a n cap) l A):(a.map (·.spot)=some none∨a=none)∧l.length≤cap:=by
 rcases H with⟨rfl,e,-⟩ | ⟨β,c,cap',J,e,-,-,h,-,-⟩
 ·cases e;exact⟨.inr rfl,Nat.le_refl _⟩
 ·cases e;exact⟨.inl rfl,h⟩
end Go.aS

/- All upside down. Conditions: none; no program in sight. -/
namespace Go.aS
set_option linter.unusedVariables false
end Go.aS

/- SyrupMirror. Conditions: none; over the given program. -/
namespace Go.aS
set_option maxRecDepth 100000
set_option maxHeartbeats 4000000
end Go.aS

/- What all the best shares say of a lot. Conditions: none; over the given program. -/
namespace Go.aS
set_option maxRecDepth 100000
set_option maxHeartbeats 4000000
def amJ(l:List (List Int))(k:Nat):Nat:=(l.filter fun s=>decide (0≤(kC s).getD k 0)).length
def al7(c n:Nat):Int:=if 0<c∧c<n then 3 else if c=0 then 2 else 1
def amz(ps:List Pn)(ls:List Lt)(rs:List Int)(k:Int):Int×Int:=
 if ji ps ls rs≠0 then(0,ji ps ls rs)else if outs k 0 ((ls.length:Int)-1)then(0,3)else(al7 (amJ (oZ ps ls rs).2 k.toNat) (oZ ps ls rs).2.length,0)
theorem amL{l:List (List Int)}{k i:Nat}{s:List Int}(h:l[i]? =some s):amJ (l.take (i+1)) k=amJ (l.take i) k+if 0≤(kC s).getD k 0 then 1 else 0:=by
 rw[amJ,List.take_add_one,h,List.filter_append,List.length_append]
 congr 1
 by_cases hs:0≤(kC s).getD k 0
 ·rw[if_pos hs]
  show([s].filter fun s=>decide (0≤(kC s).getD k 0)).length=1
  rw[List.filter_cons,if_pos (decide_eq_true hs)];rfl
 ·rw[if_neg hs]
  show([s].filter fun s=>decide (0≤(kC s).getD k 0)).length=0
  rw[List.filter_cons,if_neg (by simpa using hs)];rfl
theorem am2{l:List (List Int)}{k:Nat}:amJ l k≤l.length:=List.length_filter_le ..
theorem ank{ps:List Pn}{ls:List Lt}{rs:List Int}(h:ls.length≤4):(oZ ps ls rs).2.length≤625:=by
 have:=(MC (f:=Ba ls) (xs:=yS ps ls rs) (k:=(yS ps ls rs).length) (Nat.le_refl _)).1
 rw[List.take_length]at this
 exact Nat.le_trans this (aax h)
theorem amZ(main:Side)(h:Hp)(ps:List Pn)(ls:List Lt)(rs:List Int)(k:Int)(vp vl vr:Value)(hp:Sl h Pn.row vp ps)(hl:Sl h Lt.row vl ls)(hr:Sl h fH vr rs):Pu prog main amb #[vp,vl,vr,I k] h (.tuple #[I (amz ps ls rs k).1,I (amz ps ls rs k).2]):=by
 obtain⟨a,cap,rfl⟩:=hp.dA
 obtain⟨a2,cap2,rfl⟩:=hl.dA
 obtain⟨a3,cap3,rfl⟩:=hr.dA
 refine dV.aG amr rfl (by show 4≤68;decide) [(0,.slice a ps.length cap),(1,.slice a2 ls.length cap2),(2,.slice a3 rs.length cap3),(3,I k)] ⟨rfl,rfl,rfl,rfl,trivial⟩ ?_
 refine W.seq<|W.region rfl<|agb rfl rfl rfl<|agb rfl rfl rfl<|pq<|W.seq<|W.region rfl<|qm rfl rfl rfl<|qm rfl rfl rfl ?_
 refine qm rfl rfl rfl ?_
 refine c0 (fun h' hE hL=>VD _ h' ps ls rs _ _ _ (hp.ext hE) (hl.ext hE) (hr.ext hE)) (fun v A' hv=>?_)
 have hv2:∃pv,v= .tuple #[pv,I (ji ps ls rs)]∧(ji ps ls rs≠0→Shut A')∧(ji ps ls rs=0→∃bl R vm,pv=bI bl∧Os dL fH vm rs R∧Sb ((bl,.cells #[.slice a ps.length cap,U8 0,.slice a2 ls.length cap2,vm] xE (0,0))::R) A'):=by
  rcases hv with⟨h1,rfl,h2⟩ | ⟨h1,bl,R,vm,rfl,hR,hsb⟩
  ·exact⟨_,rfl,fun _=>h2,fun h=>absurd h h1⟩
  ·exact⟨_,by rw[h1],fun h=>absurd h1 h,fun _=>⟨bl,R,vm,rfl,hR,hsb⟩⟩
 obtain⟨pv,rfl,hv3,hv4⟩:=hv2
 clear hv
 refine qm rfl rfl rfl<|oq (bD rfl rfl rfl) rfl wn rfl rfl<|oq (bD rfl rfl rfl) rfl wn rfl rfl<|agb rfl rfl rfl<|agb rfl rfl rfl<|pq<|W.seq<|W.seq<|W.region rfl ?_
 refine qm rfl rfl rfl ?_
 refine agW (nG rfl rfl rfl) rfl ?_
 refine pq ?_
 refine W.bC rfl (fun c25=>?_) (fun c25=>?_)
 ·refine W.seq<|W.region rfl<|qm rfl rfl rfl<|agb rfl rfl rfl<|agb rfl rfl rfl<|pq<|W.ret<|aY ?_
  refine uZ ?_ (hs:=by simpa using hv3 c25)
  rw[amz,if_pos c25];rfl
 ·have h0:ji ps ls rs=0:=by simpa using c25
  obtain⟨hok,hlo,hro⟩:=aaA h0
  obtain⟨bl,R,vm,rfl,hR,hsb⟩:=hv4 h0
  obtain⟨o,hrm,Oh⟩:=aau hR
  rw[hro.len]at hrm
  have hl4:=hlo.len
  refine W.sb (F':=(bl,.cells #[.slice a ps.length cap,U8 0,.slice a2 ls.length cap2,vm] xE (0,0))::Iu o rs) (by simpa using(Sb.cons Oh).trans hsb) ?_
  have hrS:Shut (Iu o rs):=by unfold Iu;split;exact .nil;exact .cons rfl .nil
  refine W.skip<|aA<|W.seq<|W.seq<|W.region rfl<|qm rfl rfl rfl<|qm rfl rfl rfl ?_
  refine agW (dM rfl rfl) rfl ?_
  refine ag5 rfl ?_
  refine cp (fun h' hE hL=>jo _ h' _ _ _) ?_
  refine pq ?_
  refine W.bC rfl (fun c31=>?_) (fun c31=>?_)
  ·refine W.seq<|W.region rfl<|agb rfl rfl rfl<|agb rfl rfl rfl<|pq<|W.ret<|aY ?_
   refine uZ ?_ (hs:=.cons rfl hrS)
   rw[amz,if_neg (by simpa using h0),if_pos (by assumption)];rfl
  ·have hk0:0≤k∧k<ls.length:=by
    have:¬outs k 0 ((ls.length:Int)-1):=by assumption
    unfold outs at this;omega
   obtain⟨k,rfl⟩:∃n:Nat,k=n:=⟨k.toNat,by omega⟩
   have hk4:k<4:=by omega
   refine W.skip<|aA<|W.seq<|W.region rfl<|qm rfl rfl rfl ?_
   refine cg (.tail .all) (fun h' hE hL=>aaz _ h' ps ls rs _ _ vm o bl _ _ hok hlo hro hrm (hp.ext hE) (hl.ext hE) (hL bl _ (.head _))) (fun v A1 hv=>?_)
   obtain⟨u,S,rfl,hO,afy⟩:=hv
   rw[YG]at hO⊢
   simp only at hO
   have aot:=ank (ps:=ps) (rs:=rs) hl4
   have hbm:∀s∈(oZ ps ls rs).2,s.length=ls.length:=fun s hs=>Az (SN hs)
   have hbne:=VN (ps:=ps) (ls:=ls) (rs:=rs)
   have e:amz ps ls rs k=(al7 (amJ (oZ ps ls rs).2 k) (oZ ps ls rs).2.length,0):=by
    rw[amz,if_neg (by simpa using h0),if_neg (by unfold outs;omega),Int.toNat_natCast]
   rw[e]
   generalize oZ ps ls rs=B at*
   obtain⟨w,L⟩:=B
   dsimp only at hO aot hbm hbne
   rcases hO with⟨h9,-⟩ | ⟨βu,c,cp,Ju,rfl,rfl,hc1,hc2,hpt,hJu⟩
   ·exact absurd (List.map_eq_nil_iff.1 h9) hbne
   rw[List.length_map]at hc2⊢
   refine Ops.sb (F':=(βu,.cells c dw (0,0))::[]) (.skip rfl (Sb.trans (.cons (.nil (hJu.app hrS))) afy)) ?_
   refine Ops.new (fun Yf=>?_)
   refine Ops.jP (vs:= #[I w,.slice (some ⟨βu,0,none⟩) L.length cp]) ?_
   refine pq<|W.seq<|W.region rfl<|agb rfl rfl rfl<|pq<|W.seq<|W.seq<|W.region rfl ?_
   refine agY rfl ?_
   refine agX rfl ?_
   refine agW (dM rfl rfl) rfl ?_
   refine qm rfl rfl rfl<|pq<|W.block ?_
   refine W.loop (σ:=Nat) (fun i=>i≤L.length) (fun i=>[(37,I i),(36,I L.length),(35,.slice (some ⟨βu,0,none⟩) L.length cp),(13,I (amJ (L.take i) k)),(12,.pointer (some ⟨Yf,0,none⟩)),(3,I k)])
    (fun _=>[(Yf,.cells #[I w,.slice (some ⟨βu,0,none⟩) L.length cp] iJ (0,0)),(βu,.cells c dw (0,0))]) (fun i=>L.length-i) 0 (Nat.zero_le _) ⟨rfl,rfl,rfl,rfl,rfl,rfl,trivial⟩ .refl ?_
   rintro i hi
   refine W.seq<|W.region rfl ?_
   refine agW (fO rfl rfl rfl) rfl ?_
   refine pq<|W.seq ?_
   refine W.bC rfl (fun c38=>?_) (fun c38=>?_)
   ·have hil:i<L.length:=by omega
    obtain⟨s,hs,-⟩:=has hil
    have hs4:(kC s).length=4:=Qw (by rw[hbm s (List.mem_of_getElem? hs)];omega)
    have hrow:=hpt.abd (i:=i) (p:=kC s) (by rw[List.getElem?_map,hs];rfl)
    have hex:c.extract (0+i*4) (0+i*4+4)=uV (kC s):=by rw[←Qz hs4];exact hrow.1
    have apQ:0+i*4+4≤c.size:=hrow.2
    have hcl:amJ (L.take i) k≤625:=Nat.le_trans am2 (by rw[List.length_take];omega)
    have hon:ones (uV (kC s)).toList=true:=Qv
    have hsz:(uV (kC s)).size=4:=by rw[qj,hs4]
    have hat:(uV (kC s))[0+k*1]? =some (I ((kC s).getD k 0)):=by
     refine ab4 ?_
     rw[List.getD_eq_getElem?_getD,List.getElem?_eq_getElem (by omega)];rfl
    refine W.skip<|aA<|W.seq<|W.block<|W.seq<|W.region rfl ?_
    refine ag3 rfl ?_
    refine ag2 rfl ?_
    refine Ops.new (fun apR=>?_)
    refine Ops.jP (vs:=uV (kC s)) ?_
    refine pq<|W.seq<|W.region rfl<|qm rfl rfl rfl ?_
    first | refine agW (UN rfl rfl rfl) rfl ?_ | refine agW (Qg rfl rfl rfl) rfl ?_
    refine agX rfl ?_
    refine agW (IJ rfl rfl rfl) rfl ?_
    refine pq ?_
    refine W.bC rfl (fun c44=>?_) (fun c44=>?_)
    ·refine W.region rfl<|qm rfl rfl rfl ?_
     refine ag1 rfl ?_
     refine agb rfl rfl rfl<|Ops.nil<|dI<|aA<|W.region rfl ?_
     refine ag1 rfl ?_
     refine qm rfl rfl rfl<|pq ?_
     refine⟨rfl,i+1,hil,by omega,⟨rfl,rfl,rfl,lk rfl (show I _=I _ by rw[amL hs,if_pos (by assumption)];rfl),rfl,rfl,trivial⟩,.skip rfl .refl⟩
    ·refine W.skip<|dI<|aA<|W.region rfl ?_
     refine ag1 rfl ?_
     refine qm rfl rfl rfl<|pq ?_
     refine⟨rfl,i+1,hil,by omega,⟨rfl,rfl,rfl,lk rfl (show I _=I _ by rw[amL hs,if_neg (by assumption),Nat.add_zero]),rfl,rfl,trivial⟩,.skip rfl .refl⟩
   ·obtain rfl:i=L.length:=by omega
    rw[List.take_length]
    have hcL:=am2 (l:=L) (k:=k)
    refine W.exit<|bP<|bP<|gG<|aA<|W.seq<|W.region rfl<|agb rfl rfl rfl<|pq ?_
    refine W.seq<|W.block<|W.seq<|W.block<|W.seq<|W.block<|W.seq<|W.block<|W.seq<|W.seq ?_
    refine W.seq<|W.region rfl<|qm rfl rfl rfl ?_
    refine agW (rC rfl rfl rfl) rfl ?_
    refine qm rfl rfl rfl ?_
    refine Ops.ask (fun aou=>?_) (fun aou=>?_)
    ·refine oq (aN rfl rfl) rfl (ak rfl rfl rfl) rfl rfl ?_
     refine oq (ay rfl rfl) rfl (ak rfl rfl rfl) rfl rfl ?_
     refine oq (iQ rfl rfl) rfl (ak rfl rfl rfl) rfl rfl ?_
     refine oq (dM rfl rfl) rfl (ak rfl rfl rfl) rfl rfl ?_
     refine oq (fO rfl rfl rfl) rfl (ak rfl rfl rfl) rfl rfl ?_
     refine agW (dG rfl rfl rfl) rfl ?_
     refine agb rfl rfl rfl<|pq ?_
     refine W.bC rfl (fun c48=>?_) (fun c48=>?_)
     ·refine W.exit<|bP<|bP<|gG<|aA<|W.region rfl<|qm rfl rfl rfl ?_
      refine ag1 rfl ?_
      refine agb rfl rfl rfl<|Ops.nil<|dI<|aA<|W.region rfl<|qm rfl rfl rfl ?_
      refine ag1 rfl ?_
      refine agb rfl rfl rfl<|Ops.nil<|dI<|aA<|W.seq<|W.region rfl<|qm rfl rfl rfl ?_
      refine ag1 rfl ?_
      refine agb rfl rfl rfl<|pq<|W.exit<|gG<|aA<|W.seq<|W.region rfl<|qm rfl rfl rfl<|agb rfl rfl rfl ?_
      refine agb rfl rfl rfl<|pq<|W.ret ?_
      refine uZ ?_ (hs:=.cons rfl (.cons rfl .nil))
      rw[al7]
      dsimp only
      first
      | (rw[if_pos (by omega)];rfl)
      | (rw[if_neg (by omega),if_pos (by omega)];rfl)
      | (rw[if_neg (by omega),if_neg (by omega)];rfl)
     ·refine W.skip<|aA<|W.seq<|W.region rfl<|qm rfl rfl rfl ?_
      refine agW (nD rfl rfl rfl) rfl ?_
      refine agb rfl rfl rfl<|pq ?_
      refine W.bC rfl (fun c58=>?_) (fun c58=>?_)
      ·refine W.exit<|bP<|Tt<|bP<|gG<|aA<|W.region rfl<|qm rfl rfl rfl ?_
       refine ag1 rfl ?_
       refine agb rfl rfl rfl<|Ops.nil<|dI<|aA<|W.seq<|W.region rfl<|qm rfl rfl rfl ?_
       refine ag1 rfl ?_
       refine agb rfl rfl rfl<|pq<|W.exit<|gG<|aA<|W.seq<|W.region rfl<|qm rfl rfl rfl<|agb rfl rfl rfl ?_
       refine agb rfl rfl rfl<|pq<|W.ret ?_
       refine uZ ?_ (hs:=.cons rfl (.cons rfl .nil))
       rw[al7]
       dsimp only
       first
       | (rw[if_pos (by omega)];rfl)
       | (rw[if_neg (by omega),if_pos (by omega)];rfl)
       | (rw[if_neg (by omega),if_neg (by omega)];rfl)
      ·refine W.skip<|aA<|W.exit<|Tt<|bP<|Tt<|bP<|gG<|aA<|W.seq ?_
       refine W.region rfl<|qm rfl rfl rfl ?_
       refine ag1 rfl ?_
       refine agb rfl rfl rfl<|pq<|W.exit<|gG<|aA<|W.seq<|W.region rfl<|qm rfl rfl rfl<|agb rfl rfl rfl ?_
       refine agb rfl rfl rfl<|pq<|W.ret ?_
       refine uZ ?_ (hs:=.cons rfl (.cons rfl .nil))
       rw[al7]
       dsimp only
       first
       | (rw[if_pos (by omega)];rfl)
       | (rw[if_neg (by omega),if_pos (by omega)];rfl)
       | (rw[if_neg (by omega),if_neg (by omega)];rfl)
    ·refine Ops.no ?_
     refine Ops.no ?_
     refine Ops.no ?_
     refine Ops.no ?_
     refine Ops.no ?_
     refine agW (iH rfl rfl rfl) rfl ?_
     refine agb rfl rfl rfl<|pq ?_
     refine W.bZ ?_
     refine W.skip<|aA<|W.seq<|W.region rfl<|qm rfl rfl rfl ?_
     refine agW (nD rfl rfl rfl) rfl ?_
     refine agb rfl rfl rfl<|pq ?_
     refine W.bC rfl (fun c58=>?_) (fun c58=>?_)
     ·refine W.exit<|bP<|Tt<|bP<|gG<|aA<|W.region rfl<|qm rfl rfl rfl ?_
      refine ag1 rfl ?_
      refine agb rfl rfl rfl<|Ops.nil<|dI<|aA<|W.seq<|W.region rfl<|qm rfl rfl rfl ?_
      refine ag1 rfl ?_
      refine agb rfl rfl rfl<|pq<|W.exit<|gG<|aA<|W.seq<|W.region rfl<|qm rfl rfl rfl<|agb rfl rfl rfl ?_
      refine agb rfl rfl rfl<|pq<|W.ret ?_
      refine uZ ?_ (hs:=.cons rfl (.cons rfl .nil))
      rw[al7]
      dsimp only
      first
      | (rw[if_pos (by omega)];rfl)
      | (rw[if_neg (by omega),if_pos (by omega)];rfl)
      | (rw[if_neg (by omega),if_neg (by omega)];rfl)
     ·refine W.skip<|aA<|W.exit<|Tt<|bP<|Tt<|bP<|gG<|aA<|W.seq ?_
      refine W.region rfl<|qm rfl rfl rfl ?_
      refine ag1 rfl ?_
      refine agb rfl rfl rfl<|pq<|W.exit<|gG<|aA<|W.seq<|W.region rfl<|qm rfl rfl rfl<|agb rfl rfl rfl ?_
      refine agb rfl rfl rfl<|pq<|W.ret ?_
      refine uZ ?_ (hs:=.cons rfl (.cons rfl .nil))
      rw[al7]
      dsimp only
      first
      | (rw[if_pos (by omega)];rfl)
      | (rw[if_neg (by omega),if_pos (by omega)];rfl)
      | (rw[if_neg (by omega),if_neg (by omega)];rfl)
end Go.aS

/- All lists of pans, and the shares among them. Conditions: none; no program in sight. -/
namespace Go.aS
set_option linter.unusedVariables false
theorem amM{m:Nat}:∀{k:Nat},af7 m (k+1)=(List.range m).flatMap fun y=>(af7 m k).map (y:: ·)
 | 0=>by
  show([[]]:List (List Nat)).flatMap _=_
  simp only[af7,List.flatMap_cons,List.flatMap_nil,List.append_nil,List.nil_append,List.map_cons,List.map_nil]
  rw[←List.map_eq_flatMap]
 | k+1=>by
  show(af7 m (k+1)).flatMap (fun l=>(List.range m).map fun y=>l++[y])=(List.range m).flatMap fun y=>((af7 m k).flatMap fun l=>(List.range m).map fun y=>l++[y]).map (y:: ·)
  rw[amM,List.flatMap_assoc]
  refine congrArg (fun f=>List.flatMap f _) (funext fun y=>?_)
  rw[List.flatMap_map,List.map_flatMap]
  refine congrArg (fun f=>List.flatMap f _) (funext fun l=>?_)
  rw[List.map_map];rfl
def al9(m k:Nat):List (List Int):=(aff m k).map fun g=>g.map (· - 1)
theorem ana{m:Nat}:al9 m 0=[[]]:=rfl
theorem amN{m k:Nat}:al9 (m+1) (k+1)=(al9 (m+1) k).map ((-1:Int):: ·)++(List.range m).flatMap fun(p:Nat)=>(al9 (m+1) k).map ((p:Int):: ·):=by
 rw[al9,afL,amM,List.range_succ_eq_map,List.flatMap_cons,List.map_append,List.map_append,List.flatMap_map,List.map_flatMap,List.map_flatMap]
 congr 1
 ·rw[al9,afL,List.map_map,List.map_map,List.map_map,List.map_map]
  exact List.map_congr_left fun v _=>by simp[zs]
 ·refine congrArg (fun f=>List.flatMap f _) (funext fun p=>?_)
  rw[al9,afL,List.map_map,List.map_map,List.map_map,List.map_map]
  refine List.map_congr_left fun v _=>?_
  simp only[Function.comp,zs,List.map_cons,List.cons.injEq,and_true]
  omega
def alZ(ps:List Pn):List Lt→List Int→List Int→Bool
 | l::ls,rs,a::x=>if a<0 then alZ ps ls rs x else(fits l rs a.toNat&&P9 ps l.qu a.toNat)&&alZ ps ls (less l rs a.toNat) x
 | _,_,_=>true
theorem anb{ps:List Pn}{q:Int}(h4:ps.length≤4)(hq:0≤q):bQ ps 0 q.toNat=(List.range ps.length).filter fun i=>P9 ps q i:=by
 have e:List.range 4=List.range ps.length++(List.range (4-ps.length)).map (ps.length+ ·):=by
  rw[←List.range_add];congr 1;omega
 have hn:((q.toNat:Nat):Int)=q:=Int.toNat_of_nonneg hq
 rw[bQ,e,List.filter_append,hn]
 have h1:((List.range (4-ps.length)).map (ps.length+ ·)).filter (fun i=>P9 ps q i&& !(0:Nat).testBit i)=[]:=by
  refine List.filter_eq_nil_iff.2 fun i hi=>?_
  obtain⟨j,-,rfl⟩:=List.mem_map.1 hi
  unfold P9
  rw[List.getElem?_eq_none (by omega)];simp
 rw[h1,List.append_nil]
 exact List.filter_congr fun i _=>by simp
theorem amQ{ps:List Pn}(h4:ps.length≤4):∀{ls:List Lt} {rs pre:List Int},(∀l∈ls,0≤l.qu)→Dv ps ls rs pre=((al9 (ps.length+1) ls.length).filter (alZ ps ls rs)).map (pre++ ·)
 | [],rs,pre,_=>by
  rw[Dv,List.length_nil,ana];simp[alZ]
 | l::ls,rs,pre,hq=>by
  have hq':∀l∈ls,0≤l.qu:=fun x hx=>hq x (List.mem_cons_of_mem _ hx)
  rw[Dv,List.length_cons,amN,List.filter_append,List.map_append,List.filter_map,List.map_map,amQ h4 hq',anb h4 (hq l (List.mem_cons_self ..))]
  congr 1
  ·rw[show(alZ ps (l::ls) rs∘((-1:Int):: ·))=alZ ps ls rs from funext fun x=>by simp[alZ]]
   exact List.map_congr_left fun x _=>by simp
  ·rw[List.filter_flatMap,List.map_flatMap]
   generalize List.range ps.length=R
   induction R with
   | nil=>rfl
   | cons p R ih=>
    rw[List.flatMap_cons,←ih,List.filter_cons]
    have e:((al9 (ps.length+1) ls.length).map ((p:Int):: ·)).filter (alZ ps (l::ls) rs)=if fits l rs p&&P9 ps l.qu p then((al9 (ps.length+1) ls.length).filter (alZ ps ls (less l rs p))).map ((p:Int):: ·)else[]:=by
     rw[List.filter_map]
     have e2:(alZ ps (l::ls) rs∘((p:Int):: ·))=fun x=>(fits l rs p&&P9 ps l.qu p)&&alZ ps ls (less l rs p) x:=funext fun x=>by
      show alZ ps (l::ls) rs ((p:Int)::x)=_
      rw[alZ,if_neg (by omega),Int.toNat_natCast]
     rw[e2]
     cases hft:fits l rs p&&P9 ps l.qu p
     ·simp
     ·simp
    rw[e]
    cases ht:P9 ps l.qu p
    ·simp[ht]
    ·cases hf:fits l rs p
     ·simp[ht,hf]
     ·simp only[ht,hf,if_true,Bool.and_self,List.flatMap_cons,if_true]
      rw[amQ h4 hq',List.map_map]
      congr 1
      exact List.map_congr_left fun x _=>by simp
theorem amV{ps:List Pn}{ls:List Lt}{rs:List Int}(h4:ps.length≤4)(hq:∀l∈ls,0≤l.qu):yS ps ls rs=(al9 (ps.length+1) ls.length).filter (alZ ps ls rs):=by
 rw[yS,amQ h4 hq]
 exact(List.map_congr_left fun x _=>List.nil_append x).trans (List.map_id _)
end Go.aS

/- SyrupShared. Conditions: none; over the given program. -/
namespace Go.aS
set_option maxRecDepth 100000
set_option maxHeartbeats 4000000
def pdF(ps:List Pn)(ls:List Lt)(rs:List Int)(x:List Int)(acc:Int):Int:=if alZ ps ls rs x then acc+Ba ls x else -1
end Go.aS

/- SyrupShared: what is kept as all lists are gone through. Conditions: none; over the given program. -/
namespace Go.aS
set_option maxRecDepth 100000
set_option maxHeartbeats 4000000
def amS(ps:List Pn)(ls:List Lt)(rs:List Int)(i:Nat):List (List Int):=((al9 (ps.length+1) ls.length).take i).filter (alZ ps ls rs)
def StS(ps:List Pn)(ls:List Lt)(rs:List Int)(i:Nat)(w:Int)(B:List (List Int)):Prop:=
 (i=0∧w= -1∧B=[])∨(1≤i∧wE (Ba ls) (amS ps ls rs i)=(w,B)∧B≠[]∧0≤w)
theorem ams{m:Nat}:∀{k:Nat},(al9 (m+1) k)[0]? =some (List.replicate k (-1))
 | 0=>rfl
 | k+1=>by
  have ih:=ams (m:=m) (k:=k)
  rw[amN,List.getElem?_append_left (by
   rw[List.length_map]
   exact(List.getElem?_eq_some_iff.1 ih).1),List.getElem?_map,ih];rfl
theorem amW{ps:List Pn}{rs:List Int}:∀{ls:List Lt},alZ ps ls rs (List.replicate ls.length (-1))=true∧Ba ls (List.replicate ls.length (-1))=0
 | []=>⟨rfl,rfl⟩
 | l::ls=>by
  obtain⟨h1,h2⟩:=amW (ps:=ps) (rs:=rs) (ls:=ls)
  rw[List.length_cons,List.replicate_succ]
  exact⟨by rw[alZ,if_pos (by decide)];exact h1,by rw[Ba,if_neg (by decide),h2];rfl⟩
theorem anc{ps:List Pn}{ls:List Lt}{rs x:List Int}{i:Nat}(h:(al9 (ps.length+1) ls.length)[i]? =some x):amS ps ls rs (i+1)=amS ps ls rs i++if alZ ps ls rs x then[x]else[]:=by
 rw[amS,List.take_add_one,h,List.filter_append,amS]
 congr 1
 show[x].filter (alZ ps ls rs)=_
 rw[List.filter_cons];rfl
theorem amE{X:Type}[DecidableEq X]{f:X→Int}{xs:List X}{x:X}:wE f (xs++[x])=jQ (wE f xs) x (f x):=by
 rw[wE,List.foldl_append];rfl
theorem StS.next{ps:List Pn}{ls:List Lt}{rs x:List Int}{i:Nat}{w:Int}{B:List (List Int)}(h4:ps.length≤4)(hlo:Au ls)(H:StS ps ls rs i w B)(h:(al9 (ps.length+1) ls.length)[i]? =some x):
  (w<pdF ps ls rs x 0→StS ps ls rs (i+1) (pdF ps ls rs x 0) [x])∧(pdF ps ls rs x 0=w→B≠[]∧StS ps ls rs (i+1) w (B++[x]))∧(pdF ps ls rs x 0<w→StS ps ls rs (i+1) w B):=by
 have hnn:=(ab3 (ls:=ls) (fun l hl=>hlo.lot l hl) (s:=x)).1
 have hpd:pdF ps ls rs x 0=if alZ ps ls rs x then Ba ls x else -1:=by rw[pdF,Int.zero_add]
 have hnx:=anc (rs:=rs) h
 rcases H with⟨rfl,rfl,rfl⟩ | ⟨hi,hm,hB,hw⟩
 ·obtain rfl:x=List.replicate ls.length (-1):=Option.some.inj (h.symm.trans ams)
  obtain⟨hv,hl0⟩:=amW (ps:=ps) (rs:=rs) (ls:=ls)
  rw[hv,if_pos rfl,hl0]at hpd
  rw[hpd]
  refine⟨fun _=>.inr ⟨by omega,?_,by simp,Int.le_refl _⟩,fun h=>by omega,fun h=>by omega⟩
  rw[hnx,hv,if_pos rfl,amE,hl0]
  rw[show amS ps ls rs 0=[]from rfl]
  simp[wE,jQ]
 ·cases hv:alZ ps ls rs x
  ·rw[hv]at hpd hnx
   rw[if_neg (by decide)]at hpd
   rw[if_neg (by decide),List.append_nil]at hnx
   rw[hpd]
   refine⟨fun h=>by omega,fun h=>by omega,fun _=>.inr ⟨by omega,by rw[hnx];exact hm,hB,hw⟩⟩
  ·rw[hv,if_pos rfl]at hpd hnx
   rw[hpd]
   have hxB:x∉B:=by
    have hnd:(amS ps ls rs (i+1)).Nodup:=by
     have:(yS ps ls rs).Nodup:=qX
     rw[amV h4 (fun l hl=>(hlo.lot l hl).1)]at this
     exact(List.Sublist.filter _ (List.take_sublist _ _)).nodup this
    rw[hnx,List.nodup_append]at hnd
    intro hx
    have hM:=(EU (f:=Ba ls) hnd.1).eq
    rw[hm]at hM
    dsimp only at hM
    rw[hM]at hx
    exact hnd.2.2 x (List.mem_filter.1 hx).1 x (List.mem_singleton.2 rfl) rfl
   have hmn:wE (Ba ls) (amS ps ls rs (i+1))=jQ (w,B) x (Ba ls x):=by rw[hnx,amE,hm]
   refine⟨fun h=>.inr ⟨by omega,?_,by simp,by omega⟩,fun h=>⟨hB,.inr ⟨by omega,?_,by simp,hw⟩⟩,fun h=>.inr ⟨by omega,?_,hB,hw⟩⟩
   ·rw[hmn,jQ,if_neg (by simp only;omega)]
    simp only[if_pos h,List.not_mem_nil,if_false,List.nil_append]
   ·rw[hmn,jQ,if_neg (by simp only;omega)]
    rw[h]
    simp only[Int.lt_irrefl,if_false,if_neg hxB]
   ·rw[hmn,jQ,if_pos ⟨hB,h⟩]
theorem StS.all{ps:List Pn}{ls:List Lt}{rs:List Int}{w:Int}{B:List (List Int)}(h4:ps.length≤4)(hlo:Au ls)(H:StS ps ls rs (al9 (ps.length+1) ls.length).length w B):oZ ps ls rs=(w,B):=by
 rcases H with⟨h,-⟩ | ⟨-,h,-⟩
 ·have:=(List.getElem?_eq_some_iff.1 (ams (m:=ps.length) (k:=ls.length))).1
  omega
 ·rw[oZ,amV h4 (fun l hl=>(hlo.lot l hl).1),←h,amS,List.take_length]
end Go.aS

/- SyrupShared. Conditions: none; over the given program. -/
namespace Go.aS
set_option maxRecDepth 100000
set_option maxHeartbeats 4000000
end Go.aS

/- Lots and room that are checked, as the document has it. Conditions: none; over the given program. -/
namespace Go.aS
set_option maxRecDepth 100000
set_option maxHeartbeats 4000000
end Go.aS

/- A way through the pans, as the document has it. Conditions: none; over the given program. -/
namespace Go.aS
set_option maxRecDepth 100000
set_option maxHeartbeats 4000000
end Go.aS

/- Layers: from where the goal is reached in n pans, one pan left out. Conditions: none. -/
namespace Go.aS
def apy(ps:List Pn)(w:Int)(S:Nat→Bool):Nat→Nat→Bool
 | 0,q=>S q
 | n+1,q=>(List.range ps.length).any fun i=>decide ((i:Int)≠w)&&P9 ps q i&&apy ps w S n (gy ps i q)
end Go.aS

/- Where pans lead for ever, as the document has it. Conditions: none; over the given program. -/
namespace Go.aS
set_option maxRecDepth 100000
set_option maxHeartbeats 4000000
end Go.aS

/- Layers, as the document has them. Conditions: none; over the given program. -/
namespace Go.aS
set_option maxRecDepth 100000
set_option maxHeartbeats 4000000
abbrev svB(β:Nat):Sv:=⟨some ⟨β,0,none⟩,13,13⟩
def aqI(ps:List Pn)(w:Int)(S:Nat→Bool)(vs:List Sv)(n:Nat)(A:ah):Prop:=Shut A∧∀k,k<n→∃β,vs[k]? =some (svB β)∧(β,bsO (apy ps w S k))∈A
theorem aqI.next{ps:List Pn}{w:Int}{S:Nat→Bool}{vs:List Sv}{n β:Nat}{A:ah}{s:Sv}(h:aqI ps w S vs n A)(hs:vs[n]? =some (svB β)):aqI ps w S (vs++[s]) (n+1) ((β,bsO (apy ps w S n))::A):=by
 refine⟨.cons rfl h.1,fun k hk=>?_⟩
 have app:∀{k:Nat} {x:Sv},vs[k]? =some x→(vs++[s])[k]? =some x:=fun{k x} hx=>by
  rw[List.getElem?_append_left (List.getElem?_eq_some_iff.1 hx).1];exact hx
 rcases Nat.lt_or_ge k n with h1 | h1
 ·obtain⟨β',hb,hm⟩:=h.2 k h1
  exact⟨β',app hb,.tail _ hm⟩
 ·obtain rfl:k=n:=by omega
  exact⟨β,app hs,.head _⟩
theorem aqI.fin{ps:List Pn}{w:Int}{S:Nat→Bool}{vs:List Sv}{n β:Nat}{A:ah}(h:aqI ps w S vs n A)(hs:vs[n]? =some (svB β)):aqI ps w S vs (n+1) ((β,bsO (apy ps w S n))::A):=by
 refine⟨.cons rfl h.1,fun k hk=>?_⟩
 rcases Nat.lt_or_ge k n with h1 | h1
 ·obtain⟨β',hb,hm⟩:=h.2 k h1
  exact⟨β',hb,.tail _ hm⟩
 ·obtain rfl:k=n:=by omega
  exact⟨β,hs,.head _⟩
end Go.aS

/- The way that the document goes by layers. Conditions: none. -/
namespace Go.aS
end Go.aS

/- The way by layers, as the document has it. Conditions: none; over the given program. -/
namespace Go.aS
set_option maxRecDepth 100000
set_option maxHeartbeats 4000000
end Go.aS

/- The shortest ring, as the document has it: the same as the program's. Conditions: none; over the given program. -/
namespace Go.aS
set_option maxRecDepth 100000
set_option maxHeartbeats 4000000
end Go.aS

/- The shortest way, as the document has it: the same as the program's. Conditions: none; over the given program. -/
namespace Go.aS
set_option maxRecDepth 100000
set_option maxHeartbeats 4000000
end Go.aS

/- For ever, as the document has it. Conditions: none; over the given program. -/
namespace Go.aS
set_option maxRecDepth 100000
set_option maxHeartbeats 4000000
end Go.aS

/- The longest way and how many ways there are, as the document has them. Conditions: none; over the given program. -/
namespace Go.aS
set_option maxRecDepth 100000
set_option maxHeartbeats 4000000
end Go.aS

/- How many ways there are, as the document has it. Conditions: none; over the given program. -/
namespace Go.aS
set_option maxRecDepth 100000
set_option maxHeartbeats 4000000
end Go.aS

/- Where it may end, as the document has it. Conditions: none; over the given program. -/
namespace Go.aS
set_option maxRecDepth 100000
set_option maxHeartbeats 4000000
end Go.aS

/- Layers without one pan: the graph that has this pan shut. Conditions: none. -/
namespace Go.aS
end Go.aS

/- Pans that are forced, as the document has it. Conditions: none; over the given program. -/
namespace Go.aS
set_option maxRecDepth 100000
set_option maxHeartbeats 4000000
end Go.aS

/- All ascending lists of so many numbers, as the document makes them. Conditions: none; no program in sight. -/
namespace Go.aS
set_option linter.unusedVariables false
set_option maxRecDepth 100000
end Go.aS

/- Which pans to close, as the document has it. Conditions: none; over the given program. -/
namespace Go.aS
set_option maxRecDepth 100000
set_option maxHeartbeats 4000000
end Go.aS

/- Shares as the document makes them. Conditions: none; no program in sight. -/
namespace Go.aS
set_option linter.unusedVariables false
theorem auz{ps:List Pn}{q:Nat}(h4:ps.length≤4):bQ ps 0 q=(List.range ps.length).filter fun i=>P9 ps q i:=by
 obtain⟨d,hd⟩:∃d,4=ps.length+d:=⟨4-ps.length,by omega⟩
 rw[bQ,hd,List.range_add,List.filter_append]
 have e1:((List.range d).map (ps.length+ ·)).filter (fun i=>P9 ps q i&& !(0:Nat).testBit i)=[]:=by
  rw[List.filter_eq_nil_iff]
  intro i hi h
  obtain⟨x,-,rfl⟩:=List.mem_map.1 hi
  simp only[Bool.and_eq_true]at h
  have:=h.1
  unfold P9 at this
  rw[List.getElem?_eq_none (by omega)]at this;cases this
 rw[e1,List.append_nil]
 exact List.filter_congr fun i _=>by simp
end Go.aS

/- All shares, as the document has them. Conditions: none; over the given program. -/
namespace Go.aS
set_option maxRecDepth 100000
set_option maxHeartbeats 4000000
theorem UG.app{α:Type}{row:α→List Value}{w:Nat}[Rw row w]{E:TypeId}{vs vs':List Sv}{ls ls':List (List α)}{A A':ah}(h:UG E row vs ls A)(h':UG E row vs' ls' A'):UG E row (vs++vs') (ls++ls') (A++A'):=by
 induction h with
 | nil=>exact h'
 | cons h1 _ ih=>rw[List.append_assoc];exact .cons h1 ih
end Go.aS

/- The room that is needed. Conditions: none; no program in sight. -/
namespace Go.aS
set_option linter.unusedVariables false
def asD(ps:List Pn):List Lt→Int
 | []=>0
 | l::ls=>(if dY ps l.qu then 0 else l.po)+asD ps ls
abbrev auy(ls:List Lt):Prop:=∀l∈ls,0≤l.qu∧l.qu≤12∧1≤l.po∧l.po≤9
theorem atg{ps:List Pn}:∀{ls:List Lt},auy ls→0≤asD ps ls∧asD ps ls≤9*ls.length
 | [],_=>by simp[asD]
 | l::ls,h=>by
  have h1:=atg (ps:=ps) (ls:=ls) fun x hx=>h x (List.mem_cons_of_mem _ hx)
  have h2:=h l (List.mem_cons_self ..)
  simp only[asD,List.length_cons]
  split <;>omega
theorem auB{ps:List Pn}{ls:List Lt}{l:Lt}{k:Nat}(hl:ls[k]? =some l):asD ps (ls.take (k+1))=asD ps (ls.take k)+if dY ps l.qu then 0 else l.po:=by
 induction k generalizing ls with
 | zero=>
  rcases ls with _ | ⟨x,ls⟩ <;>simp at hl
  subst hl
  simp[asD]
 | succ k ih=>
  rcases ls with _ | ⟨x,ls⟩ <;>simp at hl
  have:=ih hl
  simp only[List.take_succ_cons,asD]
  omega
theorem au6{ps:List Pn}{q:Int}(h:dY ps q=false):∃i,i<ps.length∧P9 ps q i=true:=by
 rw[dY,List.all_eq_false]at h
 obtain⟨p,hp,h1⟩:=h
 obtain⟨i,hi,rfl⟩:=List.getElem_of_mem hp
 refine⟨i,hi,?_⟩
 unfold P9
 rw[List.getElem?_eq_getElem hi]
 simpa using h1
theorem avf{rs:List Int}{p i:Nat}{a:Int}(hp:p<rs.length):(rs.set p a).getD i 0=if i=p then a else rs.getD i 0:=by
 simp only[List.getD_eq_getElem?_getD,List.getElem?_set]
 by_cases h:p=i
 ·subst h;simp[hp]
 ·rw[if_neg h,if_neg fun e=>h e.symm]
theorem auL{ps:List Pn}(h4:ps.length≤4):∀{ls:List Lt} {rs pre:List Int},auy ls→rs.length=ps.length→(∀p,p<ps.length→asD ps ls≤rs.getD p 0)→∃t,pre++t∈Dv ps ls rs pre∧Ba ls t=asD ps ls
 | [],rs,pre,_,_,_=>⟨[],by simp[Dv],by simp[Ba,asD]⟩
 | l::ls,rs,pre,hl,hn,hr=>by
  have hl':auy ls:=fun x hx=>hl x (List.mem_cons_of_mem _ hx)
  have h0:=hl l (List.mem_cons_self ..)
  cases ht:dY ps l.qu with
  | true=>
   obtain⟨t,h1,h2⟩:=auL h4 (pre:=pre++[-1]) hl' hn fun p hp=>by
    have:=hr p hp
    simp only[asD,ht,if_true]at this;omega
   refine⟨-1::t,?_,?_⟩
   ·rw[Dv]
    exact List.mem_append_left _ (by simpa using h1)
   ·simp only[Ba,asD,ht,if_true,h2]
    rw[if_neg (by omega)]
  | false=>
   obtain⟨p,hp,h3⟩:=au6 ht
   have hd:=atg (ps:=ps) hl'
   have hrp:=hr p hp
   simp only[asD,ht]at hrp
   have hf:fits l rs p=true:=by simp[fits];simp at hrp;omega
   obtain⟨t,h1,h2⟩:=auL h4 (pre:=pre++[(p:Int)]) (rs:=less l rs p) hl' (by rw[Qs,hn]) fun i hi=>by
    have:=hr i hi
    simp only[asD,ht]at this
    rw[less,avf (by omega)]
    split <;>simp at* <;>omega
   refine⟨(p:Int)::t,?_,?_⟩
   ·rw[Dv]
    refine List.mem_append_right _ (List.mem_flatMap.2 ⟨p,?_,?_⟩)
    ·rw[auz h4,List.mem_filter]
     exact⟨List.mem_range.2 hp,by rw[Int.toNat_of_nonneg h0.1];exact h3⟩
    ·rw[if_pos hf];simpa using h1
   ·simp only[Ba,asD,ht,h2]
    rw[if_pos (by omega)];rfl
def ath(ps:List Pn)(ls:List Lt)(n:Nat):Bool:=(yS ps ls (List.replicate ps.length (n:Int))).any fun s=>decide (Ba ls s=asD ps ls)
theorem avs{m:Nat}{a:Int}{p:Nat}:(List.replicate m a).getD p 0=if p<m then a else 0:=by
 simp only[List.getD_eq_getElem?_getD,List.getElem?_replicate]
 split <;>rfl
theorem auk{ps:List Pn}{ls:List Lt}(h4:ps.length≤4)(hl:auy ls):ath ps ls (asD ps ls).toNat=true:=by
 have hd:=atg (ps:=ps) hl
 rw[ath,List.any_eq_true]
 obtain⟨t,h1,h2⟩:=auL h4 (ls:=ls) (rs:=List.replicate ps.length (((asD ps ls).toNat:Nat):Int)) (pre:=[]) hl (by simp) fun p hp=>by
  rw[avs,if_pos hp];omega
 exact⟨t,by simpa[yS]using h1,decide_eq_true h2⟩
def atl(ps:List Pn)(ls:List Lt):Nat:=((List.range ((asD ps ls).toNat+1)).find? (ath ps ls)).getD 0
theorem atC{ps:List Pn}{ls:List Lt}(h4:ps.length≤4)(hl:auy ls):ath ps ls (atl ps ls)=true∧atl ps ls≤(asD ps ls).toNat∧∀j,j<atl ps ls→ath ps ls j=false:=by
 have hd:=auk (ls:=ls) h4 hl
 cases hf:(List.range ((asD ps ls).toNat+1)).find? (ath ps ls)with
 | none=>
  rw[List.find?_eq_none]at hf
  exact absurd hd (hf _ (List.mem_range.2 (by omega)))
 | some n=>
  have e:atl ps ls=n:=by rw[atl,hf];rfl
  rw[e]
  have hm:=List.mem_range.1 (List.mem_of_find?_eq_some hf)
  refine⟨List.find?_some hf,by omega,fun j hj=>?_⟩
  rw[List.find?_range_eq_some]at hf
  have:=hf.2.2 j hj
  simpa using this
theorem aum{ps:List Pn}{ls:List Lt}(h4:ps.length≤4)(hl:auy ls){n:Nat}(h:ath ps ls n=true)(hj:∀j,j<n→ath ps ls j=false):atl ps ls=n:=by
 obtain⟨h1,h2,h3⟩:=atC h4 hl
 rcases Nat.lt_trichotomy (atl ps ls) n with h5 | h5 | h5
 ·rw[hj _ h5]at h1;cases h1
 ·exact h5
 ·rw[h3 _ h5]at h;cases h
end Go.aS

/- The best shares, as the document has them. Conditions: none; over the given program. -/
namespace Go.aS
set_option maxRecDepth 100000
set_option maxHeartbeats 4000000
theorem UG.sub{α:Type}{row:α→List Value}{w:Nat}[Rw row w]{E:TypeId}{vs:List Sv}{ls:List (List α)}{A:ah}(h:UG E row vs ls A):∀{Z:List (Sv×List α)},Z.Sublist (vs.zip ls)→∃B,UG E row (Z.map (·.1)) (Z.map (·.2)) B∧Sb B A:=by
 induction h with
 | nil=>
  intro Z hZ
  cases hZ
  exact⟨[],.nil,.refl⟩
 | cons h1 h2 ih=>
  intro Z hZ
  rw[List.zip_cons_cons]at hZ
  cases hZ with
  | cons _ hZ=>
   obtain⟨B,h3,h4⟩:=ih hZ
   exact⟨B,h3,.left h4 h1.shut⟩
  | cons_cons _ hZ=>
   obtain⟨B,h3,h4⟩:=ih hZ
   exact⟨_,.cons h1 h3,.app .refl h4⟩
end Go.aS

/- copy within a block of one's own. Conditions: none; over any program. -/
namespace Go.aS
variable{x:Cx}{Q:Post}{ρ:Env}{F:ah}{o:Oper}{R:Value→ah→Prop}
theorem At.mem{b:Nat}{o:Obj}{F:ah}{U:Obj→ah}(h:At b o F U):(b,o)∈F:=by
 obtain⟨F1,F2,rfl,-⟩:=h.split
 exact List.mem_append_right _ (.head _)
theorem avt{t t' E by':Nat}{z:Value}{zc:Array Value}{y yx:Operand}{b off n cap off' n' cap':Nat}{c:Array Value}{C:TypeId}{vs:List Value}{U:Obj→ah}(ho:o.op= .call ⟨.builtin .copy, #[y,yx], #[t,t']⟩)[TD x.P t (.slice E)][TI x.P E 1 by' z zc]
  (hy:ev ρ y=some (.slice (some ⟨b,off,none⟩) n cap)) (hx:ev ρ yx=some (.slice (some ⟨b,off',none⟩) n' cap')) (hl:At b (.cells c C (0,0)) F U) (hm:Nat.min n' n=vs.length) (hv:c.extract off' (off'+vs.length)=vs.toArray) (h1:ones vs=true) (hc':off'+vs.length≤c.size) (hc:off+vs.length≤c.size)
  (H:R (.int .i64 vs.length) (U (.cells (jv c off vs) C (0,0)))):Ef x ρ o F R:=
 Ef.xW fun e he h' hE=>by
  simp only[execOp,ho,resolve,invoke,builtin,Builtin.copy_,List.map_toArray,List.map_cons,List.map_nil,he y _ hy,he yx _ hx,List.getElem?_toArray,List.getElem?_cons_zero,List.getElem?_cons_succ,bind_eq,au,bind_assoc,bind_pure,aC,Builtin.lenOf,dH,hm,Builtin.firstCells,loadCells,Nat.mul_one]
  refine bJ (gX (.inr hl.mem) _ 0 #[] (by omega) ?_)
  simp only[Nat.add_zero,Array.empty_append,hv]
  refine bJ (kV vs 0 c h1 hl (by omega) ?_)
  exact⟨_,.inl rfl,by simpa[goInt]using H⟩
end Go.aS

/- slices.Repeat, of one number. Conditions: none; over the given program. -/
namespace Go.aS
set_option maxRecDepth 100000
set_option maxHeartbeats 4000000
section
variable{x:Cx}{ρ:Env}{F:ah}{o:Oper}{R:Value→ah→Prop}
theorem avu{t t' E by' c:Nat}{z:Value}{zc:Array Value}{y yx:Operand}{xv:Value}{b cap:Nat}{C:Array Value}{T:TypeId}{a:Int}{U:Obj→ah}(ho:o.op= .call ⟨.builtin .copy, #[y,yx], #[t,t']⟩)[TD x.P t (.slice E)][TI x.P E 1 by' z zc]
  (hy:ev ρ y=some (.slice (some ⟨b,0,none⟩) c cap)) (hx:ev ρ yx=some xv) (hs:Sl x.h fH xv [a]) (hl:At b (.cells C T (0,0)) F U) (hc:c≤C.size)
  (H:R (I (min 1 c:Nat)) (U (.cells (jv C 0 (List.replicate (min 1 c) (I a))) T (0,0)))):Ef x ρ o F R:=by
 rcases c with _ | c
 ·refine Ef.xW fun e he h' hE=>?_
  have hs':=Sl.ext hE hs
  obtain⟨a,cp,rfl⟩:=hs.dA
  have hmin:Nat.min [a].length 0=0:=rfl
  simp only[execOp,ho,resolve,invoke,builtin,Builtin.copy_,List.map_toArray,List.map_cons,List.map_nil,he y _ hy,he yx _ hx,List.getElem?_toArray,List.getElem?_cons_zero,List.getElem?_cons_succ,bind_eq,au,bind_assoc,bind_pure,aC,Builtin.lenOf,dH,Nat.min_zero,List.length_cons,List.length_nil]
  have e0:Builtin.firstCells 1 0 (.slice a 1 cp)=pure #[]:=by
   cases a <;>rfl
  simp only[Nat.zero_add,show Nat.min 1 0=0 from rfl,e0,bind_eq,au]
  obtain⟨F1,F2,e1,e2⟩:=hl.split
  have H':=H
  rw[show min 1 0=0 from rfl,List.replicate_zero,jv,e2,←e1]at H'
  exact⟨_,.inl rfl,H'⟩
 ·have e1:min 1 (c+1)=1:=by omega
  rw[e1]at H
  exact avI (row:=fH) (l:=[a]) ho hy hx hs (by simp) hl (by simp;omega) H
end
theorem avh(main:Side)(h:Hp)(c:Nat)(hc:c≤4):Pu prog main as4 #[.int .u64 1,.int .u64 c] h (.tuple #[.int .u64 0,.int .u64 c]):=by
 refine dV.aG atB rfl (by show 2≤51;decide) [(0,.int .u64 1),(1,.int .u64 c)] ⟨rfl,rfl,trivial⟩ ?_
 have hc':c=0∨c=1∨c=2∨c=3∨c=4:=by omega
 rcases hc' with rfl | rfl | rfl | rfl | rfl
 all_goals
  refine W.seq<|W.region rfl<|agb rfl rfl rfl<|agb rfl rfl rfl<|pq<|W.seq<|W.region rfl<|qm rfl rfl rfl ?_
  refine agW (aaK rfl rfl rfl) rfl ?_
  refine agb rfl rfl rfl<|pq<|W.seq<|W.region rfl<|qm rfl rfl rfl ?_
  refine agW (Gw rfl rfl rfl (by omega)) rfl ?_
  refine agb rfl rfl rfl<|pq<|W.seq<|W.region rfl<|qm rfl rfl rfl ?_
  refine agW (aaK rfl rfl rfl) rfl ?_
  refine agb rfl rfl rfl<|pq<|W.seq<|W.region rfl<|qm rfl rfl rfl ?_
  refine agW (Gw rfl rfl rfl (by omega)) rfl ?_
  refine agb rfl rfl rfl<|pq<|W.seq<|W.region rfl<|qm rfl rfl rfl<|qm rfl rfl rfl ?_
  first | refine agW (aaC rfl rfl rfl) rfl ?_ | refine agW (Fz rfl rfl rfl) rfl ?_
  refine agb rfl rfl rfl<|pq<|W.seq<|W.region rfl<|qm rfl rfl rfl<|qm rfl rfl rfl ?_
  first | refine agW (aaC rfl rfl rfl) rfl ?_ | refine agW (Fz rfl rfl rfl) rfl ?_
  refine qm rfl rfl rfl ?_
  refine agW (Gw rfl rfl rfl (by omega)) rfl ?_
  refine ag1 rfl ?_
  refine agb rfl rfl rfl<|pq<|W.seq<|W.region rfl<|qm rfl rfl rfl ?_
  refine agW (aaK rfl rfl rfl) rfl ?_
  refine agb rfl rfl rfl<|pq<|W.seq<|W.region rfl<|qm rfl rfl rfl ?_
  refine agW (Gw rfl rfl rfl (by omega)) rfl ?_
  refine agb rfl rfl rfl<|pq<|W.seq<|W.region rfl<|qm rfl rfl rfl<|qm rfl rfl rfl<|qm rfl rfl rfl ?_
  first | refine agW (aaC rfl rfl rfl) rfl ?_ | refine agW (Fz rfl rfl rfl) rfl ?_
  refine ag1 rfl ?_
  refine agb rfl rfl rfl<|pq<|W.seq<|W.region rfl<|qm rfl rfl rfl<|qm rfl rfl rfl ?_
  first | refine agW (aaC rfl rfl rfl) rfl ?_ | refine agW (Fz rfl rfl rfl) rfl ?_
  refine qm rfl rfl rfl ?_
  refine ag1 rfl ?_
  refine qm rfl rfl rfl ?_
  refine agW (Gw rfl rfl rfl (by omega)) rfl ?_
  refine ag1 rfl ?_
  refine agb rfl rfl rfl<|pq<|W.seq<|W.region rfl<|qm rfl rfl rfl<|qm rfl rfl rfl ?_
  first | refine agW (aaC rfl rfl rfl) rfl ?_ | refine agW (Fz rfl rfl rfl) rfl ?_
  refine agb rfl rfl rfl<|pq<|W.ret ?_
  refine uZ ?_
  kernel_rfl
theorem avU(main:Side)(h:Hp)(c:Nat)(hc:c≤4):Pu prog main atj #[.int .u64 1,.int .u64 c] h (.tuple #[.int .u64 0,.int .u64 c]):=by
 refine dV.aG atU rfl (by show 2≤30;decide) [(0,.int .u64 1),(1,.int .u64 c)] ⟨rfl,rfl,trivial⟩ ?_
 refine W.seq<|W.region rfl<|agb rfl rfl rfl<|agb rfl rfl rfl<|pq<|W.seq ?_
 refine W.bZ ?_
 refine W.skip<|aA<|W.seq<|W.region rfl<|qm rfl rfl rfl<|qm rfl rfl rfl ?_
 refine cp (fun h' hE hL=>avh _ h' c hc) ?_
 refine qm rfl rfl rfl<|oq (bD rfl rfl rfl) rfl wn rfl rfl<|oq (bD rfl rfl rfl) rfl wn rfl rfl<|agb rfl rfl rfl<|agb rfl rfl rfl<|pq<|W.seq<|W.region rfl<|qm rfl rfl rfl ?_
 refine qm rfl rfl rfl<|agb rfl rfl rfl<|agb rfl rfl rfl<|pq<|W.ret ?_
 exact uZ rfl
theorem atW(main:Side)(h:Hp)(n:Int)(v:Value)(c:Nat)(hv:Sl h fH v [n])(hc:c≤4):dV prog main asZ #[v,I c] h [] (fun v A=>Os dL fH v (List.replicate c n) A):=by
 obtain⟨a,cap,rfl⟩:=hv.dA
 refine dV.aG atm rfl (by show 2≤48;decide) [(0,.slice a 1 cap),(1,I c)] ⟨rfl,rfl,trivial⟩ ?_
 refine W.seq<|W.region rfl<|agb rfl rfl rfl<|pq<|W.seq<|W.seq<|W.region rfl<|qm rfl rfl rfl ?_
 refine agW (fO rfl rfl rfl) rfl ?_
 refine pq ?_
 refine W.bC rfl (fun c10=>?_) (fun c10=>?_)
 ·exact absurd c10 (by omega)
 ·refine W.skip<|aA<|W.seq<|W.region rfl<|qm rfl rfl rfl ?_
  refine agW (dM rfl rfl) rfl ?_
  refine KU (FC rfl rfl) (show _=Value.int .u64 1 from rfl) rfl wn rfl rfl ?_
  refine qm rfl rfl rfl ?_
  refine KU (FC rfl rfl) (congrArg (Value.int .u64) (show(c:Int) % (18446744073709551616:Int)=c by omega)) rfl wn rfl rfl ?_
  refine cp (fun h' hE hL=>avU _ h' c hc) ?_
  refine qm rfl rfl rfl<|oq (bD rfl rfl rfl) rfl wn rfl rfl<|oq (bD rfl rfl rfl) rfl wn rfl rfl<|agb rfl rfl rfl<|agb rfl rfl rfl<|pq<|W.seq<|W.seq<|W.region rfl ?_
  refine qm rfl rfl rfl ?_
  refine KU (rC rfl rfl rfl) (show _=Value.bool false from rfl) rfl wn rfl rfl ?_
  refine qm rfl rfl rfl ?_
  refine oq (aN rfl rfl) rfl (ak rfl rfl rfl) rfl rfl ?_
  refine KU (rC rfl rfl rfl) (congrArg Value.bool (decide_eq_false (by omega))) rfl (ak rfl rfl rfl) rfl rfl ?_
  refine agW (iH rfl rfl rfl) rfl ?_
  refine pq ?_
  refine W.bZ ?_
  refine W.skip<|aA<|W.seq<|W.region rfl<|qm rfl rfl rfl ?_
  refine KU (FC rfl rfl) (congrArg (Value.int .i64) (nC (by omega) (by omega))) rfl wn rfl rfl ?_
  refine oe rfl wn rfl rfl (G8 (n:=c) rfl rfl rfl (by omega) (fun avi=>?_))
  refine agb rfl rfl rfl<|pq<|W.seq<|W.region rfl<|qm rfl rfl rfl<|qm rfl rfl rfl ?_
  refine oe rfl wn rfl rfl (avu (c:=c) rfl rfl rfl hv .head (by simp) ?_)
  refine agb rfl rfl rfl<|pq<|W.seq<|W.block ?_
  refine W.loop (σ:=Nat×Array Value) (fun t=>t.1≤c∧Part t.2 0 (List.replicate t.1 (I n))∧t.2.size=c∧(0<c→0<t.1)) (fun t=>[(8,I t.1),(7,.slice (some ⟨avi,0,none⟩) c c)]) (fun t=>[(avi,.cells t.2 dL (0,0))]) (fun t=>c-t.1) (min 1 c,jv (List.replicate c (I 0)).toArray 0 (List.replicate (min 1 c) (I n))) ⟨by dsimp only;omega,?_,by dsimp only;rw[y9];simp,by dsimp only;omega⟩ ⟨rfl,rfl,trivial⟩ .refl ?_
  ·have:=Gz (List.replicate (min 1 c) (I n)) (List.replicate c (I 0)).toArray (xs:=[]) ⟨[],_,rfl,rfl⟩ (by simp;omega)
   simpa using this
  rintro⟨m,X⟩ ⟨hm,hX,hsz,hm0⟩
  dsimp only at*
  refine W.seq<|W.seq<|W.region rfl<|qm rfl rfl rfl<|qm rfl rfl rfl ?_
  refine agW (dM rfl rfl) rfl ?_
  refine agW (fO rfl rfl rfl) rfl ?_
  refine pq ?_
  refine W.bC rfl (fun c37=>?_) (fun c37=>?_)
  ·have hmc:m<c:=by omega
   have hm1:=hm0 (by omega)
   have hkm:min m (c-m)≤m:=by omega
   have hXk:Part X 0 (List.replicate (min m (c-m)) (I n)):=Part.sub (c:=X) (off:=0) (a:=[]) (b:=List.replicate (min m (c-m)) (I n)) (d:=List.replicate (m-min m (c-m)) (I n)) (by
    rw[List.nil_append,List.replicate_append_replicate,Nat.add_sub_cancel' hkm];exact hX)
   have hXe:=hXk.extract
   have hXn:Part (jv X m (List.replicate (min m (c-m)) (I n))) 0 (List.replicate (m+min m (c-m)) (I n)):=by
    have:=Gz (List.replicate (min m (c-m)) (I n)) X hX (by simp;omega)
    rw[List.length_replicate,List.replicate_append_replicate]at this
    exact this
   have hone:∀k,ones (List.replicate k (I n))=true:=fun k=>by
    induction k with
    | zero=>rfl
    | succ k ih=>rw[List.replicate_succ];exact ih
   refine W.skip<|aA<|W.block ?_
   refine W.DR [] (n:=10) rfl ?_
   refine xq 0 (aN rfl rfl) rfl ?_
   refine xq 1 (aN rfl rfl) rfl ?_
   refine xq 2 (aN rfl rfl) rfl ?_
   refine aqe (i:=3) (ak8 rfl rfl rfl) (show _=Value.slice (some ⟨avi,m,none⟩) (c-m) (c-m) by
    rw[if_neg (show¬c=m by omega)]
    simp[jE]) rfl an rfl rfl ?_
   refine xq 4 (aN rfl rfl) rfl ?_
   refine xq 5 (aN rfl rfl) rfl ?_
   refine xq 6 (Vb rfl rfl rfl (by first | exact .inl rfl | exact .inr rfl | assumption)) rfl ?_
   refine ae (i:=7) rfl an rfl rfl (avt (vs:=List.replicate (min m (c-m)) (I n)) rfl rfl rfl .head (by rw[List.length_replicate]) hXe (hone _) (by rw[List.length_replicate];omega) (by rw[List.length_replicate];omega) ?_)
   refine⟨.inr Keeps.nil,?_⟩
   rw[List.length_replicate]
   first | refine xq 8 (Zi rfl rfl rfl) rfl ?_ | refine xq 8 (MZ rfl rfl rfl) rfl ?_
   refine xq 9 (jS rfl rfl) rfl ?_
   refine az ?_
   refine dI<|aA ?_
   exact⟨rfl,(m+min m (c-m),_),⟨by dsimp only;omega,hXn,by dsimp only;rw[y9];exact hsz,fun _=>by dsimp only;omega⟩,by dsimp only;omega,⟨lk rfl (show I _=I _ by congr 1),rfl,trivial⟩,.refl⟩
  ·refine W.exit<|bP<|bP<|gG<|aA<|W.seq<|W.region rfl<|qm rfl rfl rfl<|agb rfl rfl rfl<|Ops.nil ?_
   refine aA<|W.ret ?_
   obtain rfl:m=c:=by omega
   refine mg (vs:=[.slice (some ⟨avi,0,none⟩) m m]) (.inr ⟨avi,X,m,[],by rw[List.length_replicate];rfl,rfl,by rw[hsz,Nat.mul_one],by rw[List.length_replicate];exact Nat.le_refl _,?_,.nil⟩)
   rw[YE,List.map_replicate];exact hX
end Go.aS

/- Marks of loops over functions, at a way out. Conditions: none; over any program. -/
namespace Go.aS
def aup(l:List Nat):ah:=l.map fun d=>(d,.deferred none)
theorem att:∀(l:List Nat),Shut (aup l)
 | []=>.nil
 | d::l=>.cons rfl (att l)
theorem avV{P:Program}{main:Side}{fn:Func}{h:Hp}{R:Value→ah→Prop}{e:Exit}{ρ:Env}:∀{l:List Nat} {G:ah},leave P main fn h R e ρ [] (G++aup l)→leave P main fn h R e ρ (auI l) (G++as3 l)
 | [],G,H=>H
 | d::l,G,H=>by
  refine lvm (U:=fun o=>G++((d,o)::as3 l)) ?_ (At.app At.head)
  have e1:G++((d,.deferred none)::as3 l)=(G++[(d,.deferred none)])++as3 l:=by simp
  show leave P main fn h R e ρ (auI l) (G++((d,.deferred none)::as3 l))
  rw[e1]
  refine avV ?_
  have e2:(G++[(d,Obj.deferred none)])++aup l=G++aup (d::l):=by simp[aup]
  rw[e2];exact H
end Go.aS

/- The room that is needed, as the document has it and as the program has it. Conditions: none; over the given program. -/
namespace Go.aS
set_option maxRecDepth 100000
set_option maxHeartbeats 4000000
def asO(ps:List Pn)(ls:List Lt):Int×Int:=if nV ps≠0 then(0,nV ps)else if Ig ls≠0 then(0,Ig ls)else(((atl ps ls:Nat):Int),0)
theorem auR{m n:Nat}(hn:n≤40):Aw m (List.replicate m (n:Int)):=⟨by simp,fun r hr=>by
 obtain⟨-,rfl⟩:=List.mem_replicate.1 hr
 omega⟩
end Go.aS
