/- What is reached in so many steps, as the laws find it. Conditions: none; no program in sight. (And 63 texts more.) -/
import Derived.Test.YtkkdgffaohidnaaGreatDoorR10
import Derived.Test.YtkkdgffaohidnaaGreatDoorR13
import Derived.Test.YtkkdgffaohidnaaGreatDoorR11
import Derived.Test.YtkkdgffaohidnaaGreatDoorR12
import Derived.Test.YtkkdgffaohidnaaGreatDoorR09
import Derived.Test.YtkkdgffaohidnaaGreatDoorR07
set_option linter.unusedVariables false
set_option linter.unusedSimpArgs false
set_option linter.unusedSectionVars false

/- What is reached in so many steps, as the laws find it. Conditions: none; no program in sight. -/
namespace Go.aS
set_option linter.unusedVariables false
end Go.aS

/- Operations that come up in any order and only add to what is owned. Conditions: none; over any program. -/
namespace Go.aS
abbrev Spc:=Nat×Nat×(Value→ah→Prop)
def waits(ops:Array Oper):Nat→Nat→Nat→Bool
 | 0,_,_=>false
 | n+1,k,b=>match ops[k]? with | some o=>o.after.any fun e=>iG e&&(Nat.beq e.on b|| waits ops n e.on b) | none=>false
structure Y4(ops:Array Oper)(listed:Nat)(B:List Nat):Prop where
 cl:Closed ops listed
 low:∀k o,ops[k]? =some o→∀e∈o.after,iG e=true→e.on<k
 or:∀k,k<ops.size→listed.testBit k=false→k∈B∨∀b∈B,waits ops 6 k b=true
 un:∀b∈B,b<ops.size∧listed.testBit b=false
 nd:B.Nodup

theorem Y4.some{ops:Array Oper}{listed:Nat}{B:List Nat}(h:Y4 ops listed B){b:Nat}(hb:b∈B):qx ops listed≠[]:=by
 have key:∀(n k:Nat),k<n→k<ops.size→listed.testBit k=false→∃i,Fq ops listed i=true:=by
  intro n
  induction n with
  | zero=>intro k hk;omega
  | succ n ih=>
   intro k hk hlt hl
   by_cases hr:Fq ops listed k=true
   ·exact⟨k,hr⟩
   ·simp only[Fq,Array.getElem?_eq_getElem hlt,hl,Bool.not_false,Bool.true_and,Array.all_eq_true_iff_forall_mem,Bool.or_eq_true,Bool.not_eq_true']at hr
    have:∃e∈(ops[k]).after,iG e=true∧listed.testBit e.on=false:=by
     refine Classical.byContradiction fun hn=>hr fun e he=>?_
     cases hbe:iG e with
     | false=>exact .inl rfl
     | true=>
      cases ht:listed.testBit e.on with
      | true=>exact .inr rfl
      | false=>exact absurd ⟨e,he,hbe,ht⟩ hn
    obtain⟨e,he,h1,h2⟩:=this
    have:=h.low k _ (Array.getElem?_eq_getElem hlt) e he h1
    exact ih e.on (by omega) (by omega) h2
 obtain⟨i,hi⟩:=key (b+1) b (by omega) (h.un b hb).1 (h.un b hb).2
 intro e
 have:=o8.2 hi
 rw[e]at this
 cases this

theorem Y4.step{ops:Array Oper}{listed j:Nat}{B1 B2:List Nat}(h:Y4 ops listed (B1++j::B2))(hj:Fq ops listed j=true):Y4 ops (listed||| 2 ^ j) (B1++B2):=by
 have hnd:j∉B1++B2:=by
  have:=(List.perm_middle (a:=j) (l₁:=B1) (l₂:=B2)).nodup_iff.1 h.nd
  exact(List.nodup_cons.1 this).1
 refine⟨h.cl.step hj,h.low,fun k hk hl=>?_,fun b hb=>?_,?_⟩
 ·rw[testBit_or,Bool.or_eq_false_iff]at hl
  have hne:j≠k:=by simpa using hl.2
  rcases h.or k hk hl.1 with h' | h'
  ·left
   rcases List.mem_append.1 h' with h' | h'
   ·exact List.mem_append_left _ h'
   ·rcases List.mem_cons.1 h' with h' | h'
    ·exact absurd h'.symm hne
    ·exact List.mem_append_right _ h'
  ·right
   intro b hb
   refine h' b ?_
   rcases List.mem_append.1 hb with hb | hb
   ·exact List.mem_append_left _ hb
   ·exact List.mem_append_right _ (List.mem_cons_of_mem _ hb)
 ·have hb':b∈B1++j::B2:=by
   rcases List.mem_append.1 hb with hb | hb
   ·exact List.mem_append_left _ hb
   ·exact List.mem_append_right _ (List.mem_cons_of_mem _ hb)
  refine⟨(h.un b hb').1,?_⟩
  rw[testBit_or,(h.un b hb').2,Bool.false_or,decide_eq_false_iff_not]
  rintro rfl
  exact hnd hb
 ·have:=(List.perm_middle (a:=j) (l₁:=B1) (l₂:=B2)).nodup_iff.1 h.nd
  exact(List.nodup_cons.1 this).2

def Adds(x:Cx)(ops:Array Oper)(ε:Ev)(s:Spc):Prop:=
 ∃o,ops[s.1]? =some o∧o.dst=some s.2.1∧d_ o.dst x.n=true∧(∀c,o.op≠ .defer c)∧o.guard=none∧∀e,Cons ε e→∀F,Dx x o e F fun v F'=>∃A Lp,Lp.Perm F'∧s.2.2 v A∧Lp=A++F

theorem Cons.back{ε:Ev}{d:Nat}{v:Value}{e:Operand→Value}(h:Cons (upd ε (some d) v) e)(hd:ε d=none):Cons ε e:=fun y u hy=>h y u (by
 cases y with
 | tmp t=>
  simp only[UK,upd]at hy⊢
  cases hb:Nat.beq t d with
  | true=>rw[Nat.eq_of_beq_eq_true hb,hd]at hy;cases hy
  | false=>exact hy
 | _=>exact hy)

section rules
variable{x:Cx}{Q:Post}{ρ:Env}{ds:List Deferred}{F:ah}{ops:Array Oper}{L:ah}{fuel listed:Nat}
theorem Adds.of{i d:Nat}{P:Value→ah→Prop}{op:Op}{ty:TypeId}{pos:String}{bK:Array Edge}(ho:cO ops.toList i=some ⟨some d,op,ty,pos,bK,none⟩)(hd:Nat.blt d x.n=true)(hn:cu op=true)(H:∀F,Ef x ρ ⟨some d,op,ty,pos,bK,none⟩ F fun v F'=>∃A,P v A∧F'=A++F):Adds x ops (look ρ) (i,d,P):=
 ⟨_,aU ho,rfl,hd,gI hn,rfl,fun e he F=>(H F e fun y v hy=>he y v (by rw[DC];exact hy)).mono fun v F' ⟨Lp,p,A,hv,e⟩=>⟨A,Lp,p,hv,e⟩⟩
theorem Adds.call{i d f:Nat}{P:Value→ah→Prop}{args:List Operand}{ts:Array TypeId}{vs:List Value}{ty:TypeId}{pos:String}{bK:Array Edge}(H:∀h',Ext x.h h'→dV x.P x.main f vs.toArray h' [] P)(ho:cO ops.toList i=some ⟨some d,.call ⟨.value (.func f),args.toArray,ts⟩,ty,pos,bK,none⟩:=by rfl)[FB x.P f](hv:evs ρ args=some vs:=by rfl)(hd:Nat.blt d x.n=true:=by rfl):Adds x ops (look ρ) (i,d,P):=
 .of ho hd rfl fun F=>lQ rfl hv (fun h' hE _=>H h' hE) fun v A' hv=>⟨A',hv,rfl⟩
def axt(t:TypeId)(zc:Array Value)(v:Value)(A:ah):Prop:=∃β,v= .pointer (some ⟨β,0,none⟩)∧A=[(β,.cells zc t (0,0))]
theorem Adds.new{i d t s b:Nat}{z:Value}{zc:Array Value}{ty:TypeId}{pos:String}{bK:Array Edge}(ho:cO ops.toList i=some ⟨some d,.alloc t,ty,pos,bK,none⟩:=by rfl)[TI x.P t s b z zc](hd:Nat.blt d x.n=true:=by rfl):Adds x ops (look ρ) (i,d,axt t zc):=
 .of ho hd rfl fun F=>wJ rfl fun β _ _=>⟨_,⟨β,rfl,rfl⟩,rfl⟩
end rules
end Go.aS
namespace Go.aS
section
variable{α:Type}{row:α→List Value}{w:Nat}[rw':Rw row w]
section
variable{x:Cx}{ρ:Env}{F:ah}{o:Oper}{R:Value→ah→Prop}
end
end
section
variable{x:Cx}{S:ah→Prop}{ρ:Env}{o:Oper}
theorem ak8{t E s by':Nat}{z:Value}{zc:Array Value}{y lo:Operand}{a:Option Addr}{k:IntKind}{l cap m:Nat}(ho:o.op= .slice t y (some lo) none none)[TD x.P t (.slice E)][TI x.P E s by' z zc](hy:ev ρ y=some (.slice a l cap))(hh:ev ρ lo=some (.int k (m:Int)))(hm:m≤l:=by omega):Yv x S ρ o (.slice (if cap=m then a else a.map (·.add (m*s))) (l-m) (cap-m)):=fun e he F hF h' hE=>by
 have e1:(0:Int)≤m∧(m:Int)≤l:=by omega
 simp only[execOp,ho,he y _ hy,he lo _ hh,Instr.sliceAt,Instr.slice,Instr.sliceBounds,Instr.sliceBound,asIntOf,bind_eq,au,bind_assoc,bind_pure,Option.map_none,Option.map_some,aC,dH,if_pos e1,Int.toNat_natCast]
 exact⟨rfl,rfl⟩
end
end Go.aS
namespace Go.aS
section
variable{x:Cx}{Q:Post}{ρ:Env}{ds:List Deferred}{ops:Array Oper}{G:ah}{y₁ y₂ y₃ y₄ agp agq:Nat×Obj}{id n:Nat}
theorem W.avQ(hn:ops.size=n)(H:Any x ops [y₁,y₂,y₃,y₄] n 0 Q ρ ds (y₁::y₂::y₃::y₄::G))[MO x.P]:W x (.region id ops true) Q ρ ds (y₁::y₂::y₃::y₄::G):=W.DR _ hn H
end
theorem agQ{α:Type}{l l':List α}(h:∀[DecidableEq α] (a:α),l.count a=l'.count a):l.Perm l':=by
 classical
 exact List.perm_iff_count.2 fun a=>h a
end Go.aS
namespace Go.aS
end Go.aS

/- Slices of slices; makeSlice. Conditions: none; over any program. -/
namespace Go.aS
structure Sv where
  a:Option Addr
  n:Nat
  cap:Nat
abbrev Sv.val(s:Sv):Value:=.slice s.a s.n s.cap
section
variable{α:Type}{row:α→List Value}{w:Nat}[rw':Rw row w]{E:TypeId}
inductive UG(E:TypeId)(row:α→List Value)[Rw row w]:List Sv→List (List α)→ah→Prop
  | nil:UG E row [] [] []
  | cons {s:Sv} {l:List α} {A B:ah} {vs:List Sv} {ls:List (List α)}:Os E row s.val l A→UG E row vs ls B→UG E row (s::vs) (l::ls) (A++B)
theorem UG.len{vs:List Sv}{ls:List (List α)}{A:ah}(h:UG E row vs ls A):vs.length=ls.length:=by
  induction h with
  | nil=>rfl
  | cons _ _ ih=>simp[ih]
theorem UG.shut{vs:List Sv}{ls:List (List α)}{A:ah}(h:UG E row vs ls A):Shut A:=by
  induction h with
  | nil=>exact .nil
  | cons h _ ih=>exact h.shut.app ih
theorem UG.snoc{vs:List Sv}{ls:List (List α)}{A B:ah}{s:Sv}{l:List α}(h:UG E row vs ls A)(hs:Os E row s.val l B):UG E row (vs++[s]) (ls++[l]) (A++B):=by
  induction h with
  | nil=>have:=UG.cons hs .nil;simpa using this
  | cons h1 _ ih=>have:=UG.cons h1 ih;rw[←List.append_assoc]at this;exact this
theorem UG.sl{vs:List Sv}{ls:List (List α)}{A:ah}{h':Hp}(h:UG E row vs ls A)(hL:∀b o,(b,o)∈A→h' b=some o):∀{k:Nat} {s:Sv} {l:List α},vs[k]? =some s→ls[k]? =some l→Sl h' row s.val l:=by
  induction h with
  | nil=>intro k s l hs;simp at hs
  | cons h1 _ ih=>
    intro k s l hs hl
    rcases k with _ | k
    · simp at hs hl;subst hs hl
      exact h1.sl fun b o hb=>hL b o (List.mem_append_left _ hb)
    · simp at hs hl
      exact ih (fun b o hb=>hL b o (List.mem_append_right _ hb)) hs hl
end
/-! makeSlice -/
section
variable{x:Cx}{ρ:Env}{F:ah}{o:Oper}{R:Value→ah→Prop}
theorem G8{t E by' n:Nat}{z:Value}{y y':Operand}(ho:o.op= .makeSlice t y y')[TD x.P t (.slice E)][TI x.P E 1 by' z #[z]](hy:ev ρ y=some (.int .i64 (n:Int)))(hy':ev ρ y'=some (.int .i64 (n:Int)))(hb:by'*n≤2 ^ 48∧n≤1000000)
    (K:∀β,R (.slice (some ⟨β,0,none⟩) n n) ((β,.cells (List.replicate n z).toArray E (0,0))::F)):Ef x ρ o F R:=
  Ef.xW fun e he h' hE=>by
    obtain⟨j,hj,hj1,hj2,hj3,hj4⟩:=TI.out (inferInstance:TI x.P E 1 by' z #[z])
    have hw:IntKind.i64.wrap (n:Int)=n:=nC (by omega) (by omega)
    have c1:¬((n:Int)<0):=by omega
    have c2:¬((by':Int)*(n:Int)>2 ^ 48):=by
                                                         have:((by'*n:Nat):Int)≤2 ^ 48:=by exact_mod_cast hb.1
                                                         rw[Int.natCast_mul]at this;omega
    have c3:¬((n:Int)>n):=by omega
    simp only[execOp,ho,he y _ hy,he y' _ hy',Instr.makeSlice,asInt,asIntOf,bind_eq,au,bind_assoc,bind_pure,aC,dJ hj,hj2,hw]
    simp only[c1,c2,c3,decide_false,Bool.or_false,Bool.false_eq_true,if_false]
    have room:∀{β:Type} {f:Unit→Sem β} {Q':β→ah→Prop},tr x.P h' (f ()) F Q'→tr x.P h' ((askRoom (((n:Int).toNat)*by')).bind f) F Q':=by
      intro β f Q' H
      unfold askRoom
      split
      · exact⟨rfl,H⟩
      · exact H
    refine bJ (room ?_)
    simp only[dH,Int.toNat_natCast,Nat.mul_one]
    have harr:(Array.range n).map (fun i=>(#[z]:Array Value)[i % (#[z]:Array Value).size]!)=(List.replicate n z).toArray:=by
      apply Array.ext
      · simp
      · intro i h1 h2
        simp[Nat.mod_one]
    by_cases h0:n=0
    · subst h0
      have e0:(Array.range 0).map (fun x=>(#[]:Array Value)[x % (#[]:Array Value).size]!)=(List.replicate 0 z).toArray:=by simp
      simp only[if_true,newRow,bind_eq,au,bind_assoc,bind_pure,e0]
      exact wI fun r h1 h2=>⟨_,.inl rfl,K r⟩
    · simp only[if_neg h0,fG,hj4,newRow,bind_eq,au,bind_assoc,bind_pure,harr]
      exact wI fun r h1 h2=>⟨_,.inl rfl,K r⟩
end
end Go.aS

/- Sets of qualities, as the laws keep them. Conditions: none; over the given program. -/
namespace Go.aS
set_option maxRecDepth 100000
set_option maxHeartbeats 4000000
abbrev V9(β:Nat):Value:=.slice (some ⟨β,0,none⟩) 13 13
abbrev bsO(f:Nat→Bool):Obj:=.cells (bA f) RS (0,0)
end Go.aS

/- SyrupLongest. Conditions: none; over the given program. -/
namespace Go.aS
set_option maxRecDepth 100000
set_option maxHeartbeats 4000000
end Go.aS

/- What goes round for ever comes to a ring. Conditions: none; no program in sight. -/
namespace Go.aS
set_option linter.unusedVariables false
end Go.aS

/- All ways of so many steps; the first of them. Conditions: none; no program in sight. -/
namespace Go.aS
set_option linter.unusedVariables false
def af7(m:Nat):Nat→List (List Nat)
 | 0=>[[]]
 | k+1=>(af7 m k).flatMap fun l=>(List.range m).map fun y=>l++[y]
end Go.aS

/- All lists of so many numbers, as a program makes them; all ascending ones. Conditions: none; no program in sight. -/
namespace Go.aS
set_option linter.unusedVariables false
def af9(g:List Int)(y:Nat):List (List Int):=(List.range y).map fun(y:Nat)=>g++[(y:Int)]
def afb(m:Nat)(H:List (List Int))(x:Nat):List (List Int):=(H.take x).flatMap fun g=>af9 g m
def aff(m:Nat):Nat→List (List Int)
 | 0=>[[]]
 | k+1=>afb m (aff m k) (aff m k).length
theorem afL{m:Nat}:∀{k:Nat},aff m k=(af7 m k).map zs
 | 0=>rfl
 | k+1=>by
  rw[aff,afb,List.take_length,afL,af7,List.flatMap_map,List.map_flatMap]
  refine congrArg (fun f=>List.flatMap f _) (funext fun l=>?_)
  rw[af9,List.map_map]
  exact List.map_congr_left fun y _=>by simp[zs]
end Go.aS

/- All lists of so many numbers. Conditions: none; over the given program. -/
namespace Go.aS
set_option maxRecDepth 100000
set_option maxHeartbeats 4000000
end Go.aS

/- Ways, as the laws make them. Conditions: none; over the given program. -/
namespace Go.aS
set_option maxRecDepth 100000
set_option maxHeartbeats 4000000
theorem UG.filter{α:Type}{row:α→List Value}{k:Nat}[Rw row k]{E:TypeId}{vs:List Sv}{ls:List (List α)}{A:ah}(h:UG E row vs ls A)(P:List α→Bool):∃B,UG E row (((vs.zip ls).filter fun x=>P x.2).map (·.1)) (ls.filter P) B∧Sb B A:=by
 induction h with
 | nil=>exact⟨[],.nil,.refl⟩
 | @cons s l A B vs ls h1 h2 ih=>
  obtain⟨C,h3,h4⟩:=ih
  rw[List.zip_cons_cons,List.filter_cons,List.filter_cons]
  cases hP:P l
  ·exact⟨C,by simpa[hP]using h3,h4.left h1.shut⟩
  ·exact⟨A++C,by simpa[hP]using UG.cons h1 h3,Sb.app .refl h4⟩
end Go.aS

/- Comparing truth values. Conditions: none; over any program. -/
namespace Go.aS
section
variable{x:Cx}{ρ:Env}{S:ah→Prop}{o:Oper}{v:Value}
theorem af2{P:Program}{t:TypeId}[TD P t .bool](n:Nat){a b:Bool}{h:Hp}{F:ah}{β:Type}{f:Bool→Sem β}{Q:β→ah→Prop}:tr P h ((Op.equalIn (n+1) t (.bool a) (.bool b)).bind f) F Q=tr P h (f (a==b)) F Q:=by
 simp only[Op.equalIn,bind_eq,au,bind_assoc,bind_pure,aC,if_true]
theorem ae9{t t':TypeId}{y z:Operand}{a b:Bool}(ho:o.op= .binOp .neq t y z t')[TD x.P t .bool](hy:ev ρ y=some (.bool a))(hz:ev ρ z=some (.bool b)):Yv x S ρ o (.bool (!(a==b))):=fun e he F hF h' hE=>by
 have hg:eqGuard .neq t y z (.bool a) (.bool b)= .pure ():=by unfold eqGuard;split <;>rfl
 simp only[execOp,ho,he y _ hy,he z _ hz,hg,bind_eq,au,bind_assoc,bind_pure,binOp]
 have:= @af2 x.P t _ 9999 a b h' F Next (fun r=>Sem.pure (Next.value (.bool !r))) (fun nx F'=>nx= .value (.bool (!(a==b)))∧F'=F)
 refine this.mpr ⟨rfl,rfl⟩
end
end Go.aS

/- Shut blocks are put by. Conditions: none; over any program. -/
namespace Go.aS
theorem W.cut{x:Cx}{c c2:Code}{Q:Post}{ρ:Env}{ds:List Deferred}{F:ah}(L:Env)(G:ah)(H:W x c (fun e ρ' ds' F'=>e= .normal∧ds'=ds∧Sub L ρ'∧Sb G F') ρ ds F)(K:W x c2 Q L ds G):W x c (thn (fun ρ' ds' F'=>W x c2 Q ρ' ds' F') Q) ρ ds F:=
 W.mono H fun e ρ' ds' F' h=>by
  obtain⟨he,hd,hs,hb⟩:=h
  subst he hd
  exact aA (W.env hs (W.sb hb K))
theorem W.aiB{σ:Type}{x:Cx}{c c2:Code}{Q:Post}{ρ:Env}{ds:List Deferred}{F:ah}(ok:σ→Prop)(L:σ→Env)(G:σ→ah)(H:W x c (fun e ρ' ds' F'=>e= .normal∧ds'=ds∧∃s,ok s∧Sub (L s) ρ'∧Sb (G s) F') ρ ds F)(K:∀s,ok s→W x c2 Q (L s) ds (G s)):W x c (thn (fun ρ' ds' F'=>W x c2 Q ρ' ds' F') Q) ρ ds F:=
 W.mono H fun e ρ' ds' F' h=>by
  obtain⟨he,hd,s,ho,hs,hb⟩:=h
  subst he hd
  exact aA (W.env hs (W.sb hb (K s ho)))
end Go.aS

/- SyrupRing. Conditions: none; over the given program. -/
namespace Go.aS
set_option maxRecDepth 100000
set_option maxHeartbeats 4000000
end Go.aS

/- From where syrups go round for ever: the list. Conditions: none; over the given program. -/
namespace Go.aS
set_option maxRecDepth 100000
set_option maxHeartbeats 4000000
end Go.aS

/- The shortest way to treacle; what treacle comes of a syrup. Conditions: none; over the given program. -/
namespace Go.aS
set_option maxRecDepth 100000
set_option maxHeartbeats 4000000
end Go.aS

/- Treacle, as the document has it. Conditions: none; over the given program. -/
namespace Go.aS
set_option maxRecDepth 100000
set_option maxHeartbeats 4000000
theorem aii(main:Side)(h:Hp)(n lo hi:Int):Pu prog main ahB #[I n,I lo,I hi] h (.bool (decide (lo≤n)&&decide (n≤hi))):=by
 refine dV.aG ah1 rfl (by show 3≤15;decide) [(0,I n),(1,I lo),(2,I hi)] ⟨rfl,rfl,rfl,trivial⟩ ?_
 refine W.seq<|W.region rfl<|agb rfl rfl rfl<|pq<|W.seq<|W.region rfl<|qm rfl rfl rfl<|qm rfl rfl rfl ?_
 refine agW (IJ rfl rfl rfl) rfl ?_
 refine qm rfl rfl rfl ?_
 refine Ops.ask (fun ae5=>?_) (fun ae5=>?_)
 ·refine oq (aN rfl rfl) rfl (ak rfl rfl rfl) rfl rfl ?_
  refine oq (aN rfl rfl) rfl (ak rfl rfl rfl) rfl rfl ?_
  refine oq (Lr rfl rfl rfl) rfl (ak rfl rfl rfl) rfl rfl ?_
  refine agW (dG rfl rfl rfl) rfl ?_
  refine agb rfl rfl rfl<|pq<|W.ret ?_
  refine uZ ?_
  exact congrArg Value.bool (by simp[*])
 ·refine Ops.no ?_
  refine Ops.no ?_
  refine Ops.no ?_
  refine agW (iH rfl rfl rfl) rfl ?_
  refine agb rfl rfl rfl<|pq<|W.ret ?_
  refine uZ ?_
  exact congrArg Value.bool (by simp[*])
theorem aik(main:Side)(h:Hp)(p:Pn)(q:Int):Pu prog main ahz #[p.val,I q] h (.bool (p.takes q)):=by
 refine dV.aG ah0 rfl (by show 2≤11;decide) [(0,p.val),(1,I q)] ⟨rfl,rfl,trivial⟩ ?_
 refine W.seq<|W.region rfl ?_
 refine Ops.box (cs:= #[I p.lo,I p.hi,I p.sh]) (fun yR=>?_)
 refine agb rfl rfl rfl<|pq<|W.seq<|W.region rfl<|qm rfl rfl rfl ?_
 refine agY rfl ?_
 refine agX rfl ?_
 refine agY rfl ?_
 refine agX rfl ?_
 refine cp (fun h' hE hL=>aii _ h' q p.lo p.hi) ?_
 refine agb rfl rfl rfl<|pq<|W.ret ?_
 exact uZ rfl
theorem ah6(main:Side)(h:Hp)(ps:List Pn)(vp:Value)(q:Int)(hf:Sl h Pn.row vp ps)(hn:ps.length≤1000):Pu prog main ahr #[vp,I q] h (.bool (dY ps q)):=by
 obtain⟨a,cap,rfl⟩:=hf.dA
 refine dV.aG ahS rfl (by show 2≤18;decide) [(0,.slice a ps.length cap),(1,I q)] ⟨rfl,rfl,trivial⟩ ?_
 refine W.seq<|W.region rfl<|agb rfl rfl rfl<|pq<|W.seq<|W.seq<|W.region rfl<|agb rfl rfl rfl<|Ops.nil ?_
 refine aA<|W.block ?_
 refine W.loop (σ:=Nat) (fun i=>i≤ps.length∧dY ps q=dY (ps.drop i) q) (fun i=>[(5,I i),(0,.slice a ps.length cap),(1,I q)]) (fun _=>[]) (fun i=>ps.length-i) 0 ⟨Nat.zero_le _,rfl⟩ ⟨rfl,rfl,rfl,trivial⟩ .refl ?_
 rintro i ⟨hi,ht⟩
 refine W.seq<|W.seq<|W.region rfl<|qm rfl rfl rfl<|qm rfl rfl rfl ?_
 refine agW (dM rfl rfl) rfl ?_
 refine agW (fO rfl rfl rfl) rfl ?_
 refine pq ?_
 refine W.bC rfl (fun c9=>?_) (fun c9=>?_)
 ·have hil:i<ps.length:=by omega
  obtain⟨p,hp,hdr⟩:=has hil
  rw[hdr,show dY (p::ps.drop (i+1)) q=(!p.takes q&&dY (ps.drop (i+1)) q)from rfl]at ht
  obtain⟨b,off,c,E,fz,hv,hb,hx,hy,hz⟩:=hf.at hp
  cases hv
  have hx':c.extract (off+i*3) (off+i*3+3)= #[I p.lo,I p.hi,I p.sh]:=hx
  clear hx
  refine W.skip<|aA<|W.seq<|W.block<|W.seq<|W.region rfl<|qm rfl rfl rfl<|qm rfl rfl rfl ?_
  refine ag3 rfl ?_
  refine ag2 rfl ?_
  refine qm rfl rfl rfl ?_
  refine cp (fun h' hE hL=>aik _ h' p q) ?_
  refine pq ?_
  refine W.cond rfl (fun c17=>?_) (fun c17=>?_)
  ·refine W.seq<|W.region rfl<|agb rfl rfl rfl<|pq<|W.ret<|cZ<|aY<|aY<|cZ ?_
   refine aY ?_
   refine uZ ?_
   rw[ht,c17];rfl
  ·refine W.skip<|dI<|aA<|W.region rfl<|qm rfl rfl rfl ?_
   refine ag1 rfl ?_
   refine agb rfl rfl rfl<|pq ?_
   refine⟨rfl,i+1,⟨hil,?_⟩,by omega,⟨rfl,rfl,rfl,trivial⟩,.refl⟩
   rw[ht,show p.takes q=false by simpa using c17];rfl
 ·refine W.exit<|bP<|bP<|gG<|aA<|W.seq<|W.region rfl<|agb rfl rfl rfl<|pq ?_
  refine W.ret ?_
  obtain rfl:i=ps.length:=by omega
  refine uZ ?_
  rw[ht,List.drop_length];rfl
end Go.aS

/- SyrupShortest. Conditions: none; over the given program. -/
namespace Go.aS
set_option maxRecDepth 100000
set_option maxHeartbeats 4000000
end Go.aS

/- Pans that are forced. Conditions: none; over the given program. -/
namespace Go.aS
set_option maxRecDepth 100000
set_option maxHeartbeats 4000000
end Go.aS

/- Pans that are shut; where one comes without them. Conditions: none; no program in sight. -/
namespace Go.aS
set_option linter.unusedVariables false
end Go.aS

/- Pans shut, as the document has it. Conditions: none; over the given program. -/
namespace Go.aS
set_option maxRecDepth 100000
set_option maxHeartbeats 4000000
end Go.aS

/- SyrupForced. Conditions: none; over the given program. -/
namespace Go.aS
set_option maxRecDepth 100000
set_option maxHeartbeats 4000000
end Go.aS

/- All ascending lists of so many numbers, as a program makes them. Conditions: none; no program in sight. -/
namespace Go.aS
set_option linter.unusedVariables false
set_option maxRecDepth 100000
end Go.aS

/- All ascending lists of so many numbers. Conditions: none; over the given program. -/
namespace Go.aS
set_option maxRecDepth 100000
set_option maxHeartbeats 4000000
theorem UG.os{α:Type}{row:α→List Value}{w:Nat}[Rw row w]{E:TypeId}{vs:List Sv}{ls:List (List α)}{A:ah}(h:UG E row vs ls A):∀{k:Nat} {s:Sv} {l:List α},vs[k]? =some s→ls[k]? =some l→∃B,Os E row s.val l B∧∀p∈B,p∈A:=by
 induction h with
 | nil=>intro k s l hs;simp at hs
 | cons h1 _ ih=>
  intro k s l hs hl
  rcases k with _ | k
  ·simp at hs hl;subst hs hl
   exact⟨_,h1,fun p hp=>List.mem_append_left _ hp⟩
  ·simp at hs hl
   obtain⟨B,h2,h3⟩:=ih hs hl
   exact⟨B,h2,fun p hp=>List.mem_append_right _ (h3 p hp)⟩
end Go.aS

/- SyrupClosed. Conditions: none; over the given program. -/
namespace Go.aS
set_option maxRecDepth 100000
set_option maxHeartbeats 4000000
end Go.aS

/- SyrupMore. Conditions: none; over the given program. -/
namespace Go.aS
set_option maxRecDepth 100000
set_option maxHeartbeats 4000000
end Go.aS

/- Pans that are checked, and which of them take a syrup, as the document has it and as the program has it. Conditions: none; over the given program. -/
namespace Go.aS
set_option maxRecDepth 100000
set_option maxHeartbeats 4000000
end Go.aS

/- Ways made of numbers. Conditions: none; over the given program. -/
namespace Go.aS
set_option maxRecDepth 100000
set_option maxHeartbeats 4000000
end Go.aS

/- A way gone along: where it leads, what comes out, what stops it. Conditions: none; no program in sight. -/
namespace Go.aS
set_option linter.unusedVariables false
end Go.aS

/- SyrupBoiled. Conditions: none; over the given program. -/
namespace Go.aS
set_option maxRecDepth 100000
set_option maxHeartbeats 4000000
theorem Os.room{α:Type}{row:α→List Value}{w:Nat}[Rw row w]{E:TypeId}{a:Option Addr}{n cap:Nat}{l:List α}{A:ah}(H:Os E row (.slice a n cap) l A):(a.map (·.spot)=some none∨a=none)∧l.length≤cap:=by
 rcases H with⟨rfl,e,-⟩ | ⟨β,c,cap',J,e,-,-,h,-,-⟩
 ·cases e;exact⟨.inr rfl,Nat.le_refl _⟩
 ·cases e;exact⟨.inl rfl,h⟩
end Go.aS

/- All upside down. Conditions: none; no program in sight. -/
namespace Go.aS
set_option linter.unusedVariables false
end Go.aS

/- SyrupMirror. Conditions: none; over the given program. -/
namespace Go.aS
set_option maxRecDepth 100000
set_option maxHeartbeats 4000000
end Go.aS

/- What all the best shares say of a lot. Conditions: none; over the given program. -/
namespace Go.aS
set_option maxRecDepth 100000
set_option maxHeartbeats 4000000
end Go.aS

/- All lists of pans, and the shares among them. Conditions: none; no program in sight. -/
namespace Go.aS
set_option linter.unusedVariables false
theorem amM{m:Nat}:∀{k:Nat},af7 m (k+1)=(List.range m).flatMap fun y=>(af7 m k).map (y:: ·)
 | 0=>by
  show([[]]:List (List Nat)).flatMap _=_
  simp only[af7,List.flatMap_cons,List.flatMap_nil,List.append_nil,List.nil_append,List.map_cons,List.map_nil]
  rw[←List.map_eq_flatMap]
 | k+1=>by
  show(af7 m (k+1)).flatMap (fun l=>(List.range m).map fun y=>l++[y])=(List.range m).flatMap fun y=>((af7 m k).flatMap fun l=>(List.range m).map fun y=>l++[y]).map (y:: ·)
  rw[amM,List.flatMap_assoc]
  refine congrArg (fun f=>List.flatMap f _) (funext fun y=>?_)
  rw[List.flatMap_map,List.map_flatMap]
  refine congrArg (fun f=>List.flatMap f _) (funext fun l=>?_)
  rw[List.map_map];rfl
def al9(m k:Nat):List (List Int):=(aff m k).map fun g=>g.map (· - 1)
theorem ana{m:Nat}:al9 m 0=[[]]:=rfl
theorem amN{m k:Nat}:al9 (m+1) (k+1)=(al9 (m+1) k).map ((-1:Int):: ·)++(List.range m).flatMap fun(p:Nat)=>(al9 (m+1) k).map ((p:Int):: ·):=by
 rw[al9,afL,amM,List.range_succ_eq_map,List.flatMap_cons,List.map_append,List.map_append,List.flatMap_map,List.map_flatMap,List.map_flatMap]
 congr 1
 ·rw[al9,afL,List.map_map,List.map_map,List.map_map,List.map_map]
  exact List.map_congr_left fun v _=>by simp[zs]
 ·refine congrArg (fun f=>List.flatMap f _) (funext fun p=>?_)
  rw[al9,afL,List.map_map,List.map_map,List.map_map,List.map_map]
  refine List.map_congr_left fun v _=>?_
  simp only[Function.comp,zs,List.map_cons,List.cons.injEq,and_true]
  omega
def alZ(ps:List Pn):List Lt→List Int→List Int→Bool
 | l::ls,rs,a::x=>if a<0 then alZ ps ls rs x else(fits l rs a.toNat&&P9 ps l.qu a.toNat)&&alZ ps ls (less l rs a.toNat) x
 | _,_,_=>true
theorem anb{ps:List Pn}{q:Int}(h4:ps.length≤4)(hq:0≤q):bQ ps 0 q.toNat=(List.range ps.length).filter fun i=>P9 ps q i:=by
 have e:List.range 4=List.range ps.length++(List.range (4-ps.length)).map (ps.length+ ·):=by
  rw[←List.range_add];congr 1;omega
 have hn:((q.toNat:Nat):Int)=q:=Int.toNat_of_nonneg hq
 rw[bQ,e,List.filter_append,hn]
 have h1:((List.range (4-ps.length)).map (ps.length+ ·)).filter (fun i=>P9 ps q i&& !(0:Nat).testBit i)=[]:=by
  refine List.filter_eq_nil_iff.2 fun i hi=>?_
  obtain⟨j,-,rfl⟩:=List.mem_map.1 hi
  unfold P9
  rw[List.getElem?_eq_none (by omega)];simp
 rw[h1,List.append_nil]
 exact List.filter_congr fun i _=>by simp
theorem amQ{ps:List Pn}(h4:ps.length≤4):∀{ls:List Lt} {rs pre:List Int},(∀l∈ls,0≤l.qu)→Dv ps ls rs pre=((al9 (ps.length+1) ls.length).filter (alZ ps ls rs)).map (pre++ ·)
 | [],rs,pre,_=>by
  rw[Dv,List.length_nil,ana];simp[alZ]
 | l::ls,rs,pre,hq=>by
  have hq':∀l∈ls,0≤l.qu:=fun x hx=>hq x (List.mem_cons_of_mem _ hx)
  rw[Dv,List.length_cons,amN,List.filter_append,List.map_append,List.filter_map,List.map_map,amQ h4 hq',anb h4 (hq l (List.mem_cons_self ..))]
  congr 1
  ·rw[show(alZ ps (l::ls) rs∘((-1:Int):: ·))=alZ ps ls rs from funext fun x=>by simp[alZ]]
   exact List.map_congr_left fun x _=>by simp
  ·rw[List.filter_flatMap,List.map_flatMap]
   generalize List.range ps.length=R
   induction R with
   | nil=>rfl
   | cons p R ih=>
    rw[List.flatMap_cons,←ih,List.filter_cons]
    have e:((al9 (ps.length+1) ls.length).map ((p:Int):: ·)).filter (alZ ps (l::ls) rs)=if fits l rs p&&P9 ps l.qu p then((al9 (ps.length+1) ls.length).filter (alZ ps ls (less l rs p))).map ((p:Int):: ·)else[]:=by
     rw[List.filter_map]
     have e2:(alZ ps (l::ls) rs∘((p:Int):: ·))=fun x=>(fits l rs p&&P9 ps l.qu p)&&alZ ps ls (less l rs p) x:=funext fun x=>by
      show alZ ps (l::ls) rs ((p:Int)::x)=_
      rw[alZ,if_neg (by omega),Int.toNat_natCast]
     rw[e2]
     cases hft:fits l rs p&&P9 ps l.qu p
     ·simp
     ·simp
    rw[e]
    cases ht:P9 ps l.qu p
    ·simp[ht]
    ·cases hf:fits l rs p
     ·simp[ht,hf]
     ·simp only[ht,hf,if_true,Bool.and_self,List.flatMap_cons,if_true]
      rw[amQ h4 hq',List.map_map]
      congr 1
      exact List.map_congr_left fun x _=>by simp
theorem amV{ps:List Pn}{ls:List Lt}{rs:List Int}(h4:ps.length≤4)(hq:∀l∈ls,0≤l.qu):yS ps ls rs=(al9 (ps.length+1) ls.length).filter (alZ ps ls rs):=by
 rw[yS,amQ h4 hq]
 exact(List.map_congr_left fun x _=>List.nil_append x).trans (List.map_id _)
end Go.aS

/- SyrupShared. Conditions: none; over the given program. -/
namespace Go.aS
set_option maxRecDepth 100000
set_option maxHeartbeats 4000000
def pdF(ps:List Pn)(ls:List Lt)(rs:List Int)(x:List Int)(acc:Int):Int:=if alZ ps ls rs x then acc+Ba ls x else -1
end Go.aS

/- SyrupShared: what is kept as all lists are gone through. Conditions: none; over the given program. -/
namespace Go.aS
set_option maxRecDepth 100000
set_option maxHeartbeats 4000000
def amS(ps:List Pn)(ls:List Lt)(rs:List Int)(i:Nat):List (List Int):=((al9 (ps.length+1) ls.length).take i).filter (alZ ps ls rs)
def StS(ps:List Pn)(ls:List Lt)(rs:List Int)(i:Nat)(w:Int)(B:List (List Int)):Prop:=
 (i=0∧w= -1∧B=[])∨(1≤i∧wE (Ba ls) (amS ps ls rs i)=(w,B)∧B≠[]∧0≤w)
theorem ams{m:Nat}:∀{k:Nat},(al9 (m+1) k)[0]? =some (List.replicate k (-1))
 | 0=>rfl
 | k+1=>by
  have ih:=ams (m:=m) (k:=k)
  rw[amN,List.getElem?_append_left (by
   rw[List.length_map]
   exact(List.getElem?_eq_some_iff.1 ih).1),List.getElem?_map,ih];rfl
theorem amW{ps:List Pn}{rs:List Int}:∀{ls:List Lt},alZ ps ls rs (List.replicate ls.length (-1))=true∧Ba ls (List.replicate ls.length (-1))=0
 | []=>⟨rfl,rfl⟩
 | l::ls=>by
  obtain⟨h1,h2⟩:=amW (ps:=ps) (rs:=rs) (ls:=ls)
  rw[List.length_cons,List.replicate_succ]
  exact⟨by rw[alZ,if_pos (by decide)];exact h1,by rw[Ba,if_neg (by decide),h2];rfl⟩
theorem anc{ps:List Pn}{ls:List Lt}{rs x:List Int}{i:Nat}(h:(al9 (ps.length+1) ls.length)[i]? =some x):amS ps ls rs (i+1)=amS ps ls rs i++if alZ ps ls rs x then[x]else[]:=by
 rw[amS,List.take_add_one,h,List.filter_append,amS]
 congr 1
 show[x].filter (alZ ps ls rs)=_
 rw[List.filter_cons];rfl
theorem amE{X:Type}[DecidableEq X]{f:X→Int}{xs:List X}{x:X}:wE f (xs++[x])=jQ (wE f xs) x (f x):=by
 rw[wE,List.foldl_append];rfl
theorem StS.next{ps:List Pn}{ls:List Lt}{rs x:List Int}{i:Nat}{w:Int}{B:List (List Int)}(h4:ps.length≤4)(hlo:Au ls)(H:StS ps ls rs i w B)(h:(al9 (ps.length+1) ls.length)[i]? =some x):
  (w<pdF ps ls rs x 0→StS ps ls rs (i+1) (pdF ps ls rs x 0) [x])∧(pdF ps ls rs x 0=w→B≠[]∧StS ps ls rs (i+1) w (B++[x]))∧(pdF ps ls rs x 0<w→StS ps ls rs (i+1) w B):=by
 have hnn:=(ab3 (ls:=ls) (fun l hl=>hlo.lot l hl) (s:=x)).1
 have hpd:pdF ps ls rs x 0=if alZ ps ls rs x then Ba ls x else -1:=by rw[pdF,Int.zero_add]
 have hnx:=anc (rs:=rs) h
 rcases H with⟨rfl,rfl,rfl⟩ | ⟨hi,hm,hB,hw⟩
 ·obtain rfl:x=List.replicate ls.length (-1):=Option.some.inj (h.symm.trans ams)
  obtain⟨hv,hl0⟩:=amW (ps:=ps) (rs:=rs) (ls:=ls)
  rw[hv,if_pos rfl,hl0]at hpd
  rw[hpd]
  refine⟨fun _=>.inr ⟨by omega,?_,by simp,Int.le_refl _⟩,fun h=>by omega,fun h=>by omega⟩
  rw[hnx,hv,if_pos rfl,amE,hl0]
  rw[show amS ps ls rs 0=[]from rfl]
  simp[wE,jQ]
 ·cases hv:alZ ps ls rs x
  ·rw[hv]at hpd hnx
   rw[if_neg (by decide)]at hpd
   rw[if_neg (by decide),List.append_nil]at hnx
   rw[hpd]
   refine⟨fun h=>by omega,fun h=>by omega,fun _=>.inr ⟨by omega,by rw[hnx];exact hm,hB,hw⟩⟩
  ·rw[hv,if_pos rfl]at hpd hnx
   rw[hpd]
   have hxB:x∉B:=by
    have hnd:(amS ps ls rs (i+1)).Nodup:=by
     have:(yS ps ls rs).Nodup:=qX
     rw[amV h4 (fun l hl=>(hlo.lot l hl).1)]at this
     exact(List.Sublist.filter _ (List.take_sublist _ _)).nodup this
    rw[hnx,List.nodup_append]at hnd
    intro hx
    have hM:=(EU (f:=Ba ls) hnd.1).eq
    rw[hm]at hM
    dsimp only at hM
    rw[hM]at hx
    exact hnd.2.2 x (List.mem_filter.1 hx).1 x (List.mem_singleton.2 rfl) rfl
   have hmn:wE (Ba ls) (amS ps ls rs (i+1))=jQ (w,B) x (Ba ls x):=by rw[hnx,amE,hm]
   refine⟨fun h=>.inr ⟨by omega,?_,by simp,by omega⟩,fun h=>⟨hB,.inr ⟨by omega,?_,by simp,hw⟩⟩,fun h=>.inr ⟨by omega,?_,hB,hw⟩⟩
   ·rw[hmn,jQ,if_neg (by simp only;omega)]
    simp only[if_pos h,List.not_mem_nil,if_false,List.nil_append]
   ·rw[hmn,jQ,if_neg (by simp only;omega)]
    rw[h]
    simp only[Int.lt_irrefl,if_false,if_neg hxB]
   ·rw[hmn,jQ,if_pos ⟨hB,h⟩]
theorem StS.all{ps:List Pn}{ls:List Lt}{rs:List Int}{w:Int}{B:List (List Int)}(h4:ps.length≤4)(hlo:Au ls)(H:StS ps ls rs (al9 (ps.length+1) ls.length).length w B):oZ ps ls rs=(w,B):=by
 rcases H with⟨h,-⟩ | ⟨-,h,-⟩
 ·have:=(List.getElem?_eq_some_iff.1 (ams (m:=ps.length) (k:=ls.length))).1
  omega
 ·rw[oZ,amV h4 (fun l hl=>(hlo.lot l hl).1),←h,amS,List.take_length]
theorem aox{o:Option (Nat×List Value)}{n:Nat}{vm:Value}{x:List Int}(h:RmV o n vm)(hx:x.length=n):Vx (Iu o x) vm x:=by
 cases o with
 | none=>
  obtain⟨rfl,rfl⟩:=h
  obtain rfl:=List.length_eq_zero_iff.1 hx
  exact⟨.nil,fun _ _=>.nil⟩
 | some y=>
  obtain⟨cap,rfl⟩:=h
  refine⟨.cons rfl .nil,fun h hL=>?_⟩
  refine Sl.mk (hL y.1 _ (.head _)) hx.symm ?_
  rw[YE]
  exact⟨[],y.2,rfl,rfl⟩
end Go.aS

/- SyrupShared. Conditions: none; over the given program. -/
namespace Go.aS
set_option maxRecDepth 100000
set_option maxHeartbeats 4000000
theorem anr{ps:List Pn}{ls:List Lt}{rs:List Int}(hps:nV ps=0)(hl:ls.length≤4)(hlb:∀p∈ls,Ar p=false)(hr:rs.length=ps.length)(hrb:∀r∈rs,0≤r∧r≤20):ji ps ls rs=0:=by
 have h1:Ig ls=0:=by
  rw[Ig,if_neg (by omega),if_neg]
  rw[List.any_eq_true]
  rintro⟨p,hp,h⟩
  rw[hlb p hp]at h;cases h
 have h2:K_ ps.length rs=0:=by
  rw[K_,if_neg (by omega),if_neg (by omega),if_neg]
  rw[List.any_eq_true]
  rintro⟨r,hr,h⟩
  have:=hrb r hr
  rw[decide_eq_true_iff]at h
  unfold outs at h;omega
 rw[ji,if_neg (by rw[hps];simp),if_neg (by rw[h1];simp),h2]
end Go.aS

/- Lots and room that are checked, as the document has it. Conditions: none; over the given program. -/
namespace Go.aS
set_option maxRecDepth 100000
set_option maxHeartbeats 4000000
end Go.aS

/- A way through the pans, as the document has it. Conditions: none; over the given program. -/
namespace Go.aS
set_option maxRecDepth 100000
set_option maxHeartbeats 4000000
end Go.aS

/- Layers: from where the goal is reached in n pans, one pan left out. Conditions: none. -/
namespace Go.aS
def apy(ps:List Pn)(w:Int)(S:Nat→Bool):Nat→Nat→Bool
 | 0,q=>S q
 | n+1,q=>(List.range ps.length).any fun i=>decide ((i:Int)≠w)&&P9 ps q i&&apy ps w S n (gy ps i q)
end Go.aS

/- Where pans lead for ever, as the document has it. Conditions: none; over the given program. -/
namespace Go.aS
set_option maxRecDepth 100000
set_option maxHeartbeats 4000000
end Go.aS

/- Layers, as the document has them. Conditions: none; over the given program. -/
namespace Go.aS
set_option maxRecDepth 100000
set_option maxHeartbeats 4000000
abbrev svB(β:Nat):Sv:=⟨some ⟨β,0,none⟩,13,13⟩
def aqI(ps:List Pn)(w:Int)(S:Nat→Bool)(vs:List Sv)(n:Nat)(A:ah):Prop:=Shut A∧∀k,k<n→∃β,vs[k]? =some (svB β)∧(β,bsO (apy ps w S k))∈A
theorem aqI.next{ps:List Pn}{w:Int}{S:Nat→Bool}{vs:List Sv}{n β:Nat}{A:ah}{s:Sv}(h:aqI ps w S vs n A)(hs:vs[n]? =some (svB β)):aqI ps w S (vs++[s]) (n+1) ((β,bsO (apy ps w S n))::A):=by
 refine⟨.cons rfl h.1,fun k hk=>?_⟩
 have app:∀{k:Nat} {x:Sv},vs[k]? =some x→(vs++[s])[k]? =some x:=fun{k x} hx=>by
  rw[List.getElem?_append_left (List.getElem?_eq_some_iff.1 hx).1];exact hx
 rcases Nat.lt_or_ge k n with h1 | h1
 ·obtain⟨β',hb,hm⟩:=h.2 k h1
  exact⟨β',app hb,.tail _ hm⟩
 ·obtain rfl:k=n:=by omega
  exact⟨β,app hs,.head _⟩
theorem aqI.fin{ps:List Pn}{w:Int}{S:Nat→Bool}{vs:List Sv}{n β:Nat}{A:ah}(h:aqI ps w S vs n A)(hs:vs[n]? =some (svB β)):aqI ps w S vs (n+1) ((β,bsO (apy ps w S n))::A):=by
 refine⟨.cons rfl h.1,fun k hk=>?_⟩
 rcases Nat.lt_or_ge k n with h1 | h1
 ·obtain⟨β',hb,hm⟩:=h.2 k h1
  exact⟨β',hb,.tail _ hm⟩
 ·obtain rfl:k=n:=by omega
  exact⟨β,hs,.head _⟩
end Go.aS

/- The way that the document goes by layers. Conditions: none. -/
namespace Go.aS
end Go.aS

/- The way by layers, as the document has it. Conditions: none; over the given program. -/
namespace Go.aS
set_option maxRecDepth 100000
set_option maxHeartbeats 4000000
end Go.aS

/- The shortest ring, as the document has it: the same as the program's. Conditions: none; over the given program. -/
namespace Go.aS
set_option maxRecDepth 100000
set_option maxHeartbeats 4000000
end Go.aS

/- The shortest way, as the document has it: the same as the program's. Conditions: none; over the given program. -/
namespace Go.aS
set_option maxRecDepth 100000
set_option maxHeartbeats 4000000
end Go.aS

/- For ever, as the document has it. Conditions: none; over the given program. -/
namespace Go.aS
set_option maxRecDepth 100000
set_option maxHeartbeats 4000000
end Go.aS

/- The longest way and how many ways there are, as the document has them. Conditions: none; over the given program. -/
namespace Go.aS
set_option maxRecDepth 100000
set_option maxHeartbeats 4000000
end Go.aS

/- How many ways there are, as the document has it. Conditions: none; over the given program. -/
namespace Go.aS
set_option maxRecDepth 100000
set_option maxHeartbeats 4000000
end Go.aS

/- Where it may end, as the document has it. Conditions: none; over the given program. -/
namespace Go.aS
set_option maxRecDepth 100000
set_option maxHeartbeats 4000000
end Go.aS

/- Layers without one pan: the graph that has this pan shut. Conditions: none. -/
namespace Go.aS
end Go.aS

/- Pans that are forced, as the document has it. Conditions: none; over the given program. -/
namespace Go.aS
set_option maxRecDepth 100000
set_option maxHeartbeats 4000000
end Go.aS

/- All ascending lists of so many numbers, as the document makes them. Conditions: none; no program in sight. -/
namespace Go.aS
set_option linter.unusedVariables false
set_option maxRecDepth 100000
end Go.aS

/- Which pans to close, as the document has it. Conditions: none; over the given program. -/
namespace Go.aS
set_option maxRecDepth 100000
set_option maxHeartbeats 4000000
end Go.aS

/- Shares as the document makes them. Conditions: none; no program in sight. -/
namespace Go.aS
set_option linter.unusedVariables false
theorem auz{ps:List Pn}{q:Nat}(h4:ps.length≤4):bQ ps 0 q=(List.range ps.length).filter fun i=>P9 ps q i:=by
 obtain⟨d,hd⟩:∃d,4=ps.length+d:=⟨4-ps.length,by omega⟩
 rw[bQ,hd,List.range_add,List.filter_append]
 have e1:((List.range d).map (ps.length+ ·)).filter (fun i=>P9 ps q i&& !(0:Nat).testBit i)=[]:=by
  rw[List.filter_eq_nil_iff]
  intro i hi h
  obtain⟨x,-,rfl⟩:=List.mem_map.1 hi
  simp only[Bool.and_eq_true]at h
  have:=h.1
  unfold P9 at this
  rw[List.getElem?_eq_none (by omega)]at this;cases this
 rw[e1,List.append_nil]
 exact List.filter_congr fun i _=>by simp
end Go.aS

/- All shares, as the document has them. Conditions: none; over the given program. -/
namespace Go.aS
set_option maxRecDepth 100000
set_option maxHeartbeats 4000000
theorem UG.app{α:Type}{row:α→List Value}{w:Nat}[Rw row w]{E:TypeId}{vs vs':List Sv}{ls ls':List (List α)}{A A':ah}(h:UG E row vs ls A)(h':UG E row vs' ls' A'):UG E row (vs++vs') (ls++ls') (A++A'):=by
 induction h with
 | nil=>exact h'
 | cons h1 _ ih=>rw[List.append_assoc];exact .cons h1 ih
end Go.aS

/- The room that is needed. Conditions: none; no program in sight. -/
namespace Go.aS
set_option linter.unusedVariables false
def asD(ps:List Pn):List Lt→Int
 | []=>0
 | l::ls=>(if dY ps l.qu then 0 else l.po)+asD ps ls
abbrev auy(ls:List Lt):Prop:=∀l∈ls,0≤l.qu∧l.qu≤12∧1≤l.po∧l.po≤9
theorem atg{ps:List Pn}:∀{ls:List Lt},auy ls→0≤asD ps ls∧asD ps ls≤9*ls.length
 | [],_=>by simp[asD]
 | l::ls,h=>by
  have h1:=atg (ps:=ps) (ls:=ls) fun x hx=>h x (List.mem_cons_of_mem _ hx)
  have h2:=h l (List.mem_cons_self ..)
  simp only[asD,List.length_cons]
  split <;>omega
theorem auB{ps:List Pn}{ls:List Lt}{l:Lt}{k:Nat}(hl:ls[k]? =some l):asD ps (ls.take (k+1))=asD ps (ls.take k)+if dY ps l.qu then 0 else l.po:=by
 induction k generalizing ls with
 | zero=>
  rcases ls with _ | ⟨x,ls⟩ <;>simp at hl
  subst hl
  simp[asD]
 | succ k ih=>
  rcases ls with _ | ⟨x,ls⟩ <;>simp at hl
  have:=ih hl
  simp only[List.take_succ_cons,asD]
  omega
theorem avr{ps:List Pn}{q:Int}{i:Nat}(h:P9 ps q i=true):dY ps q=false:=by
 unfold P9 at h
 split at h
 ·rename_i p hp
  rw[dY,List.all_eq_false]
  exact⟨p,List.mem_of_getElem? hp,by simp[h]⟩
 ·cases h
theorem au6{ps:List Pn}{q:Int}(h:dY ps q=false):∃i,i<ps.length∧P9 ps q i=true:=by
 rw[dY,List.all_eq_false]at h
 obtain⟨p,hp,h1⟩:=h
 obtain⟨i,hi,rfl⟩:=List.getElem_of_mem hp
 refine⟨i,hi,?_⟩
 unfold P9
 rw[List.getElem?_eq_getElem hi]
 simpa using h1
theorem auC{ps:List Pn}{ls:List Lt}{rs pre s:List Int}{a:Int}(h:s∈Dv ps ls rs (pre++[a])):s.drop pre.length=a::s.drop (pre++[a]).length:=by
 have q:=(Ot h).2.1
 have e:s=(pre++[a])++s.drop (pre++[a]).length:=by
  conv=>lhs;rw[←List.take_append_drop (pre++[a]).length s,q]
 conv=>lhs;rw[e,List.append_assoc,List.drop_left]
 rfl
theorem auJ{ps:List Pn}:∀{ls:List Lt} {rs pre s:List Int},auy ls→s∈Dv ps ls rs pre→Ba ls (s.drop pre.length)≤asD ps ls
 | [],rs,pre,s,_,h=>by
  have:s=pre:=by simpa[Dv]using h
  subst this;simp[Ba,asD]
 | l::ls,rs,pre,s,hl,h=>by
  have hl':auy ls:=fun x hx=>hl x (List.mem_cons_of_mem _ hx)
  have h0:=hl l (List.mem_cons_self ..)
  simp only[Dv,List.mem_append,List.mem_flatMap]at h
  rcases h with h | ⟨p,hp,h⟩
  ·rw[auC h]
   have:=auJ hl' h
   simp only[Ba,asD]
   have:¬(0:Int)≤-1:=by omega
   rw[if_neg this]
   split <;>omega
  ·split at h
   ·rw[auC h]
    have:=auJ hl' h
    simp only[Ba,asD]
    have ht:=avr (Ak.1 hp).2.1
    rw[Int.toNat_of_nonneg h0.1]at ht
    rw[ht]
    simp only[Bool.false_eq_true,if_false]
    split <;>omega
   ·cases h
theorem avf{rs:List Int}{p i:Nat}{a:Int}(hp:p<rs.length):(rs.set p a).getD i 0=if i=p then a else rs.getD i 0:=by
 simp only[List.getD_eq_getElem?_getD,List.getElem?_set]
 by_cases h:p=i
 ·subst h;simp[hp]
 ·rw[if_neg h,if_neg fun e=>h e.symm]
theorem auL{ps:List Pn}(h4:ps.length≤4):∀{ls:List Lt} {rs pre:List Int},auy ls→rs.length=ps.length→(∀p,p<ps.length→asD ps ls≤rs.getD p 0)→∃t,pre++t∈Dv ps ls rs pre∧Ba ls t=asD ps ls
 | [],rs,pre,_,_,_=>⟨[],by simp[Dv],by simp[Ba,asD]⟩
 | l::ls,rs,pre,hl,hn,hr=>by
  have hl':auy ls:=fun x hx=>hl x (List.mem_cons_of_mem _ hx)
  have h0:=hl l (List.mem_cons_self ..)
  cases ht:dY ps l.qu with
  | true=>
   obtain⟨t,h1,h2⟩:=auL h4 (pre:=pre++[-1]) hl' hn fun p hp=>by
    have:=hr p hp
    simp only[asD,ht,if_true]at this;omega
   refine⟨-1::t,?_,?_⟩
   ·rw[Dv]
    exact List.mem_append_left _ (by simpa using h1)
   ·simp only[Ba,asD,ht,if_true,h2]
    rw[if_neg (by omega)]
  | false=>
   obtain⟨p,hp,h3⟩:=au6 ht
   have hd:=atg (ps:=ps) hl'
   have hrp:=hr p hp
   simp only[asD,ht]at hrp
   have hf:fits l rs p=true:=by simp[fits];simp at hrp;omega
   obtain⟨t,h1,h2⟩:=auL h4 (pre:=pre++[(p:Int)]) (rs:=less l rs p) hl' (by rw[Qs,hn]) fun i hi=>by
    have:=hr i hi
    simp only[asD,ht]at this
    rw[less,avf (by omega)]
    split <;>simp at* <;>omega
   refine⟨(p:Int)::t,?_,?_⟩
   ·rw[Dv]
    refine List.mem_append_right _ (List.mem_flatMap.2 ⟨p,?_,?_⟩)
    ·rw[auz h4,List.mem_filter]
     exact⟨List.mem_range.2 hp,by rw[Int.toNat_of_nonneg h0.1];exact h3⟩
    ·rw[if_pos hf];simpa using h1
   ·simp only[Ba,asD,ht,h2]
    rw[if_pos (by omega)];rfl
theorem ava{ps:List Pn}:∀{ls:List Lt} {rs rs' pre s:List Int},rs.length=rs'.length→(∀p,rs.getD p 0≤rs'.getD p 0)→s∈Dv ps ls rs pre→s∈Dv ps ls rs' pre
 | [],rs,rs',pre,s,_,_,h=>by simpa[Dv]using h
 | l::ls,rs,rs',pre,s,hn,hr,h=>by
  simp only[Dv,List.mem_append,List.mem_flatMap]at h⊢
  rcases h with h | ⟨p,hp,h⟩
  ·exact .inl (ava hn hr h)
  ·refine .inr ⟨p,hp,?_⟩
   split at h
   ·rename_i hf
    have hf':fits l rs' p=true:=by
     simp[fits]at hf⊢
     have:=hr p
     simp[List.getD_eq_getElem?_getD]at this
     omega
    rw[if_pos hf']
    refine ava (by simp[Qs,hn]) (fun i=>?_) h
    rcases Nat.lt_or_ge p rs.length with hpl | hpl
    ·rw[less,less,avf hpl,avf (by omega)]
     have:=hr p
     have:=hr i
     split <;>omega
    ·rw[less,less,List.set_eq_of_length_le hpl,List.set_eq_of_length_le (by omega)]
     exact hr i
   ·cases h
def ath(ps:List Pn)(ls:List Lt)(n:Nat):Bool:=(yS ps ls (List.replicate ps.length (n:Int))).any fun s=>decide (Ba ls s=asD ps ls)
theorem avs{m:Nat}{a:Int}{p:Nat}:(List.replicate m a).getD p 0=if p<m then a else 0:=by
 simp only[List.getD_eq_getElem?_getD,List.getElem?_replicate]
 split <;>rfl
theorem avC{ps:List Pn}{ls:List Lt}{n m:Nat}(h:n≤m)(hc:ath ps ls n=true):ath ps ls m=true:=by
 rw[ath,List.any_eq_true]at hc⊢
 obtain⟨s,h1,h2⟩:=hc
 refine⟨s,ava (by simp) (fun p=>?_) h1,h2⟩
 rw[avs,avs];split <;>omega
theorem auk{ps:List Pn}{ls:List Lt}(h4:ps.length≤4)(hl:auy ls):ath ps ls (asD ps ls).toNat=true:=by
 have hd:=atg (ps:=ps) hl
 rw[ath,List.any_eq_true]
 obtain⟨t,h1,h2⟩:=auL h4 (ls:=ls) (rs:=List.replicate ps.length (((asD ps ls).toNat:Nat):Int)) (pre:=[]) hl (by simp) fun p hp=>by
  rw[avs,if_pos hp];omega
 exact⟨t,by simpa[yS]using h1,decide_eq_true h2⟩
theorem auD{ps:List Pn}{ls:List Lt}{rs:List Int}:∃s∈yS ps ls rs,Ba ls s=(oZ ps ls rs).1:=by
 have h1:lY (Ba ls) (yS ps ls rs) (oZ ps ls rs):=EU qX
 obtain⟨x,hx⟩:=List.exists_mem_of_ne_nil _ (h1.ne Ou)
 rw[h1.eq]at hx
 obtain⟨a,b⟩:=List.mem_filter.1 hx
 exact⟨x,a,of_decide_eq_true b⟩
theorem au7{ps:List Pn}{ls:List Lt}{rs:List Int}(hl:auy ls):(oZ ps ls rs).1≤asD ps ls:=by
 obtain⟨s,h1,h2⟩:=auD (ps:=ps) (ls:=ls) (rs:=rs)
 rw[←h2];exact auJ (pre:=[]) hl h1
theorem avg{ps:List Pn}{ls:List Lt}{n:Nat}(hl:auy ls):(oZ ps ls (List.replicate ps.length (n:Int))).1=asD ps ls↔ath ps ls n=true:=by
 have h1:lY (Ba ls) (yS ps ls (List.replicate ps.length (n:Int))) (oZ ps ls _):=EU qX
 rw[ath,List.any_eq_true]
 constructor
 ·intro h
  obtain⟨s,h1,h2⟩:=auD (ps:=ps) (ls:=ls) (rs:=List.replicate ps.length (n:Int))
  exact⟨s,h1,decide_eq_true (h2.trans h)⟩
 ·rintro⟨s,h2,h3⟩
  have:=h1.le s h2
  have:=au7 (ps:=ps) (rs:=List.replicate ps.length (n:Int)) hl
  have:=of_decide_eq_true h3
  omega
def atl(ps:List Pn)(ls:List Lt):Nat:=((List.range ((asD ps ls).toNat+1)).find? (ath ps ls)).getD 0
theorem atC{ps:List Pn}{ls:List Lt}(h4:ps.length≤4)(hl:auy ls):ath ps ls (atl ps ls)=true∧atl ps ls≤(asD ps ls).toNat∧∀j,j<atl ps ls→ath ps ls j=false:=by
 have hd:=auk (ls:=ls) h4 hl
 cases hf:(List.range ((asD ps ls).toNat+1)).find? (ath ps ls)with
 | none=>
  rw[List.find?_eq_none]at hf
  exact absurd hd (hf _ (List.mem_range.2 (by omega)))
 | some n=>
  have e:atl ps ls=n:=by rw[atl,hf];rfl
  rw[e]
  have hm:=List.mem_range.1 (List.mem_of_find?_eq_some hf)
  refine⟨List.find?_some hf,by omega,fun j hj=>?_⟩
  rw[List.find?_range_eq_some]at hf
  have:=hf.2.2 j hj
  simpa using this
theorem aum{ps:List Pn}{ls:List Lt}(h4:ps.length≤4)(hl:auy ls){n:Nat}(h:ath ps ls n=true)(hj:∀j,j<n→ath ps ls j=false):atl ps ls=n:=by
 obtain⟨h1,h2,h3⟩:=atC h4 hl
 rcases Nat.lt_trichotomy (atl ps ls) n with h5 | h5 | h5
 ·rw[hj _ h5]at h1;cases h1
 ·exact h5
 ·rw[h3 _ h5]at h;cases h
theorem avE{ps:List Pn}{ls:List Lt}(h4:ps.length≤4)(hl:auy ls){n:Nat}:ath ps ls n=true↔atl ps ls≤n:=by
 obtain⟨h1,h2,h3⟩:=atC h4 hl
 constructor
 ·intro h
  rcases Nat.lt_or_ge n (atl ps ls)with h5 | h5
  ·rw[h3 _ h5]at h;cases h
  ·exact h5
 ·exact fun h=>avC h h1
theorem avD{ps:List Pn}{ls:List Lt}{rs rs':List Int}(hn:rs.length=rs'.length)(hr:∀p,rs.getD p 0≤rs'.getD p 0):(oZ ps ls rs).1≤(oZ ps ls rs').1:=by
 obtain⟨s,h1,h2⟩:=auD (ps:=ps) (ls:=ls) (rs:=rs)
 rw[←h2]
 exact(EU (f:=Ba ls) (xs:=yS ps ls rs') qX).le s (ava hn hr h1)
end Go.aS

/- The best shares, as the document has them. Conditions: none; over the given program. -/
namespace Go.aS
set_option maxRecDepth 100000
set_option maxHeartbeats 4000000
theorem UG.sub{α:Type}{row:α→List Value}{w:Nat}[Rw row w]{E:TypeId}{vs:List Sv}{ls:List (List α)}{A:ah}(h:UG E row vs ls A):∀{Z:List (Sv×List α)},Z.Sublist (vs.zip ls)→∃B,UG E row (Z.map (·.1)) (Z.map (·.2)) B∧Sb B A:=by
 induction h with
 | nil=>
  intro Z hZ
  cases hZ
  exact⟨[],.nil,.refl⟩
 | cons h1 h2 ih=>
  intro Z hZ
  rw[List.zip_cons_cons]at hZ
  cases hZ with
  | cons _ hZ=>
   obtain⟨B,h3,h4⟩:=ih hZ
   exact⟨B,h3,.left h4 h1.shut⟩
  | cons_cons _ hZ=>
   obtain⟨B,h3,h4⟩:=ih hZ
   exact⟨_,.cons h1 h3,.app .refl h4⟩
end Go.aS

/- copy within a block of one's own. Conditions: none; over any program. -/
namespace Go.aS
variable{x:Cx}{Q:Post}{ρ:Env}{F:ah}{o:Oper}{R:Value→ah→Prop}
theorem At.mem{b:Nat}{o:Obj}{F:ah}{U:Obj→ah}(h:At b o F U):(b,o)∈F:=by
 obtain⟨F1,F2,rfl,-⟩:=h.split
 exact List.mem_append_right _ (.head _)
theorem avt{t t' E by':Nat}{z:Value}{zc:Array Value}{y yx:Operand}{b off n cap off' n' cap':Nat}{c:Array Value}{C:TypeId}{vs:List Value}{U:Obj→ah}(ho:o.op= .call ⟨.builtin .copy, #[y,yx], #[t,t']⟩)[TD x.P t (.slice E)][TI x.P E 1 by' z zc]
  (hy:ev ρ y=some (.slice (some ⟨b,off,none⟩) n cap)) (hx:ev ρ yx=some (.slice (some ⟨b,off',none⟩) n' cap')) (hl:At b (.cells c C (0,0)) F U) (hm:Nat.min n' n=vs.length) (hv:c.extract off' (off'+vs.length)=vs.toArray) (h1:ones vs=true) (hc':off'+vs.length≤c.size) (hc:off+vs.length≤c.size)
  (H:R (.int .i64 vs.length) (U (.cells (jv c off vs) C (0,0)))):Ef x ρ o F R:=
 Ef.xW fun e he h' hE=>by
  simp only[execOp,ho,resolve,invoke,builtin,Builtin.copy_,List.map_toArray,List.map_cons,List.map_nil,he y _ hy,he yx _ hx,List.getElem?_toArray,List.getElem?_cons_zero,List.getElem?_cons_succ,bind_eq,au,bind_assoc,bind_pure,aC,Builtin.lenOf,dH,hm,Builtin.firstCells,loadCells,Nat.mul_one]
  refine bJ (gX (.inr hl.mem) _ 0 #[] (by omega) ?_)
  simp only[Nat.add_zero,Array.empty_append,hv]
  refine bJ (kV vs 0 c h1 hl (by omega) ?_)
  exact⟨_,.inl rfl,by simpa[goInt]using H⟩
end Go.aS

/- slices.Repeat, of one number. Conditions: none; over the given program. -/
namespace Go.aS
set_option maxRecDepth 100000
set_option maxHeartbeats 4000000
section
variable{x:Cx}{ρ:Env}{F:ah}{o:Oper}{R:Value→ah→Prop}
theorem avu{t t' E by' c:Nat}{z:Value}{zc:Array Value}{y yx:Operand}{xv:Value}{b cap:Nat}{C:Array Value}{T:TypeId}{a:Int}{U:Obj→ah}(ho:o.op= .call ⟨.builtin .copy, #[y,yx], #[t,t']⟩)[TD x.P t (.slice E)][TI x.P E 1 by' z zc]
  (hy:ev ρ y=some (.slice (some ⟨b,0,none⟩) c cap)) (hx:ev ρ yx=some xv) (hs:Sl x.h fH xv [a]) (hl:At b (.cells C T (0,0)) F U) (hc:c≤C.size)
  (H:R (I (min 1 c:Nat)) (U (.cells (jv C 0 (List.replicate (min 1 c) (I a))) T (0,0)))):Ef x ρ o F R:=by
 rcases c with _ | c
 ·refine Ef.xW fun e he h' hE=>?_
  have hs':=Sl.ext hE hs
  obtain⟨a,cp,rfl⟩:=hs.dA
  have hmin:Nat.min [a].length 0=0:=rfl
  simp only[execOp,ho,resolve,invoke,builtin,Builtin.copy_,List.map_toArray,List.map_cons,List.map_nil,he y _ hy,he yx _ hx,List.getElem?_toArray,List.getElem?_cons_zero,List.getElem?_cons_succ,bind_eq,au,bind_assoc,bind_pure,aC,Builtin.lenOf,dH,Nat.min_zero,List.length_cons,List.length_nil]
  have e0:Builtin.firstCells 1 0 (.slice a 1 cp)=pure #[]:=by
   cases a <;>rfl
  simp only[Nat.zero_add,show Nat.min 1 0=0 from rfl,e0,bind_eq,au]
  obtain⟨F1,F2,e1,e2⟩:=hl.split
  have H':=H
  rw[show min 1 0=0 from rfl,List.replicate_zero,jv,e2,←e1]at H'
  exact⟨_,.inl rfl,H'⟩
 ·have e1:min 1 (c+1)=1:=by omega
  rw[e1]at H
  exact avI (row:=fH) (l:=[a]) ho hy hx hs (by simp) hl (by simp;omega) H
end
theorem avh(main:Side)(h:Hp)(c:Nat)(hc:c≤4):Pu prog main as4 #[.int .u64 1,.int .u64 c] h (.tuple #[.int .u64 0,.int .u64 c]):=by
 refine dV.aG atB rfl (by show 2≤51;decide) [(0,.int .u64 1),(1,.int .u64 c)] ⟨rfl,rfl,trivial⟩ ?_
 have hc':c=0∨c=1∨c=2∨c=3∨c=4:=by omega
 rcases hc' with rfl | rfl | rfl | rfl | rfl
 all_goals
  refine W.seq<|W.region rfl<|agb rfl rfl rfl<|agb rfl rfl rfl<|pq<|W.seq<|W.region rfl<|qm rfl rfl rfl ?_
  refine agW (aaK rfl rfl rfl) rfl ?_
  refine agb rfl rfl rfl<|pq<|W.seq<|W.region rfl<|qm rfl rfl rfl ?_
  refine agW (Gw rfl rfl rfl (by omega)) rfl ?_
  refine agb rfl rfl rfl<|pq<|W.seq<|W.region rfl<|qm rfl rfl rfl ?_
  refine agW (aaK rfl rfl rfl) rfl ?_
  refine agb rfl rfl rfl<|pq<|W.seq<|W.region rfl<|qm rfl rfl rfl ?_
  refine agW (Gw rfl rfl rfl (by omega)) rfl ?_
  refine agb rfl rfl rfl<|pq<|W.seq<|W.region rfl<|qm rfl rfl rfl<|qm rfl rfl rfl ?_
  first | refine agW (aaC rfl rfl rfl) rfl ?_ | refine agW (Fz rfl rfl rfl) rfl ?_
  refine agb rfl rfl rfl<|pq<|W.seq<|W.region rfl<|qm rfl rfl rfl<|qm rfl rfl rfl ?_
  first | refine agW (aaC rfl rfl rfl) rfl ?_ | refine agW (Fz rfl rfl rfl) rfl ?_
  refine qm rfl rfl rfl ?_
  refine agW (Gw rfl rfl rfl (by omega)) rfl ?_
  refine ag1 rfl ?_
  refine agb rfl rfl rfl<|pq<|W.seq<|W.region rfl<|qm rfl rfl rfl ?_
  refine agW (aaK rfl rfl rfl) rfl ?_
  refine agb rfl rfl rfl<|pq<|W.seq<|W.region rfl<|qm rfl rfl rfl ?_
  refine agW (Gw rfl rfl rfl (by omega)) rfl ?_
  refine agb rfl rfl rfl<|pq<|W.seq<|W.region rfl<|qm rfl rfl rfl<|qm rfl rfl rfl<|qm rfl rfl rfl ?_
  first | refine agW (aaC rfl rfl rfl) rfl ?_ | refine agW (Fz rfl rfl rfl) rfl ?_
  refine ag1 rfl ?_
  refine agb rfl rfl rfl<|pq<|W.seq<|W.region rfl<|qm rfl rfl rfl<|qm rfl rfl rfl ?_
  first | refine agW (aaC rfl rfl rfl) rfl ?_ | refine agW (Fz rfl rfl rfl) rfl ?_
  refine qm rfl rfl rfl ?_
  refine ag1 rfl ?_
  refine qm rfl rfl rfl ?_
  refine agW (Gw rfl rfl rfl (by omega)) rfl ?_
  refine ag1 rfl ?_
  refine agb rfl rfl rfl<|pq<|W.seq<|W.region rfl<|qm rfl rfl rfl<|qm rfl rfl rfl ?_
  first | refine agW (aaC rfl rfl rfl) rfl ?_ | refine agW (Fz rfl rfl rfl) rfl ?_
  refine agb rfl rfl rfl<|pq<|W.ret ?_
  refine uZ ?_
  kernel_rfl
theorem avU(main:Side)(h:Hp)(c:Nat)(hc:c≤4):Pu prog main atj #[.int .u64 1,.int .u64 c] h (.tuple #[.int .u64 0,.int .u64 c]):=by
 refine dV.aG atU rfl (by show 2≤30;decide) [(0,.int .u64 1),(1,.int .u64 c)] ⟨rfl,rfl,trivial⟩ ?_
 refine W.seq<|W.region rfl<|agb rfl rfl rfl<|agb rfl rfl rfl<|pq<|W.seq ?_
 refine W.bZ ?_
 refine W.skip<|aA<|W.seq<|W.region rfl<|qm rfl rfl rfl<|qm rfl rfl rfl ?_
 refine cp (fun h' hE hL=>avh _ h' c hc) ?_
 refine qm rfl rfl rfl<|oq (bD rfl rfl rfl) rfl wn rfl rfl<|oq (bD rfl rfl rfl) rfl wn rfl rfl<|agb rfl rfl rfl<|agb rfl rfl rfl<|pq<|W.seq<|W.region rfl<|qm rfl rfl rfl ?_
 refine qm rfl rfl rfl<|agb rfl rfl rfl<|agb rfl rfl rfl<|pq<|W.ret ?_
 exact uZ rfl
theorem atW(main:Side)(h:Hp)(n:Int)(v:Value)(c:Nat)(hv:Sl h fH v [n])(hc:c≤4):dV prog main asZ #[v,I c] h [] (fun v A=>Os dL fH v (List.replicate c n) A):=by
 obtain⟨a,cap,rfl⟩:=hv.dA
 refine dV.aG atm rfl (by show 2≤48;decide) [(0,.slice a 1 cap),(1,I c)] ⟨rfl,rfl,trivial⟩ ?_
 refine W.seq<|W.region rfl<|agb rfl rfl rfl<|pq<|W.seq<|W.seq<|W.region rfl<|qm rfl rfl rfl ?_
 refine agW (fO rfl rfl rfl) rfl ?_
 refine pq ?_
 refine W.bC rfl (fun c10=>?_) (fun c10=>?_)
 ·exact absurd c10 (by omega)
 ·refine W.skip<|aA<|W.seq<|W.region rfl<|qm rfl rfl rfl ?_
  refine agW (dM rfl rfl) rfl ?_
  refine KU (FC rfl rfl) (show _=Value.int .u64 1 from rfl) rfl wn rfl rfl ?_
  refine qm rfl rfl rfl ?_
  refine KU (FC rfl rfl) (congrArg (Value.int .u64) (show(c:Int) % (18446744073709551616:Int)=c by omega)) rfl wn rfl rfl ?_
  refine cp (fun h' hE hL=>avU _ h' c hc) ?_
  refine qm rfl rfl rfl<|oq (bD rfl rfl rfl) rfl wn rfl rfl<|oq (bD rfl rfl rfl) rfl wn rfl rfl<|agb rfl rfl rfl<|agb rfl rfl rfl<|pq<|W.seq<|W.seq<|W.region rfl ?_
  refine qm rfl rfl rfl ?_
  refine KU (rC rfl rfl rfl) (show _=Value.bool false from rfl) rfl wn rfl rfl ?_
  refine qm rfl rfl rfl ?_
  refine oq (aN rfl rfl) rfl (ak rfl rfl rfl) rfl rfl ?_
  refine KU (rC rfl rfl rfl) (congrArg Value.bool (decide_eq_false (by omega))) rfl (ak rfl rfl rfl) rfl rfl ?_
  refine agW (iH rfl rfl rfl) rfl ?_
  refine pq ?_
  refine W.bZ ?_
  refine W.skip<|aA<|W.seq<|W.region rfl<|qm rfl rfl rfl ?_
  refine KU (FC rfl rfl) (congrArg (Value.int .i64) (nC (by omega) (by omega))) rfl wn rfl rfl ?_
  refine oe rfl wn rfl rfl (G8 (n:=c) rfl rfl rfl (by omega) (fun avi=>?_))
  refine agb rfl rfl rfl<|pq<|W.seq<|W.region rfl<|qm rfl rfl rfl<|qm rfl rfl rfl ?_
  refine oe rfl wn rfl rfl (avu (c:=c) rfl rfl rfl hv .head (by simp) ?_)
  refine agb rfl rfl rfl<|pq<|W.seq<|W.block ?_
  refine W.loop (σ:=Nat×Array Value) (fun t=>t.1≤c∧Part t.2 0 (List.replicate t.1 (I n))∧t.2.size=c∧(0<c→0<t.1)) (fun t=>[(8,I t.1),(7,.slice (some ⟨avi,0,none⟩) c c)]) (fun t=>[(avi,.cells t.2 dL (0,0))]) (fun t=>c-t.1) (min 1 c,jv (List.replicate c (I 0)).toArray 0 (List.replicate (min 1 c) (I n))) ⟨by dsimp only;omega,?_,by dsimp only;rw[y9];simp,by dsimp only;omega⟩ ⟨rfl,rfl,trivial⟩ .refl ?_
  ·have:=Gz (List.replicate (min 1 c) (I n)) (List.replicate c (I 0)).toArray (xs:=[]) ⟨[],_,rfl,rfl⟩ (by simp;omega)
   simpa using this
  rintro⟨m,X⟩ ⟨hm,hX,hsz,hm0⟩
  dsimp only at*
  refine W.seq<|W.seq<|W.region rfl<|qm rfl rfl rfl<|qm rfl rfl rfl ?_
  refine agW (dM rfl rfl) rfl ?_
  refine agW (fO rfl rfl rfl) rfl ?_
  refine pq ?_
  refine W.bC rfl (fun c37=>?_) (fun c37=>?_)
  ·have hmc:m<c:=by omega
   have hm1:=hm0 (by omega)
   have hkm:min m (c-m)≤m:=by omega
   have hXk:Part X 0 (List.replicate (min m (c-m)) (I n)):=Part.sub (c:=X) (off:=0) (a:=[]) (b:=List.replicate (min m (c-m)) (I n)) (d:=List.replicate (m-min m (c-m)) (I n)) (by
    rw[List.nil_append,List.replicate_append_replicate,Nat.add_sub_cancel' hkm];exact hX)
   have hXe:=hXk.extract
   have hXn:Part (jv X m (List.replicate (min m (c-m)) (I n))) 0 (List.replicate (m+min m (c-m)) (I n)):=by
    have:=Gz (List.replicate (min m (c-m)) (I n)) X hX (by simp;omega)
    rw[List.length_replicate,List.replicate_append_replicate]at this
    exact this
   have hone:∀k,ones (List.replicate k (I n))=true:=fun k=>by
    induction k with
    | zero=>rfl
    | succ k ih=>rw[List.replicate_succ];exact ih
   refine W.skip<|aA<|W.block ?_
   refine W.DR [] (n:=10) rfl ?_
   refine xq 0 (aN rfl rfl) rfl ?_
   refine xq 1 (aN rfl rfl) rfl ?_
   refine xq 2 (aN rfl rfl) rfl ?_
   refine aqe (i:=3) (ak8 rfl rfl rfl) (show _=Value.slice (some ⟨avi,m,none⟩) (c-m) (c-m) by
    rw[if_neg (show¬c=m by omega)]
    simp[jE]) rfl an rfl rfl ?_
   refine xq 4 (aN rfl rfl) rfl ?_
   refine xq 5 (aN rfl rfl) rfl ?_
   refine xq 6 (Vb rfl rfl rfl (by first | exact .inl rfl | exact .inr rfl | assumption)) rfl ?_
   refine ae (i:=7) rfl an rfl rfl (avt (vs:=List.replicate (min m (c-m)) (I n)) rfl rfl rfl .head (by rw[List.length_replicate]) hXe (hone _) (by rw[List.length_replicate];omega) (by rw[List.length_replicate];omega) ?_)
   refine⟨.inr Keeps.nil,?_⟩
   rw[List.length_replicate]
   first | refine xq 8 (Zi rfl rfl rfl) rfl ?_ | refine xq 8 (MZ rfl rfl rfl) rfl ?_
   refine xq 9 (jS rfl rfl) rfl ?_
   refine az ?_
   refine dI<|aA ?_
   exact⟨rfl,(m+min m (c-m),_),⟨by dsimp only;omega,hXn,by dsimp only;rw[y9];exact hsz,fun _=>by dsimp only;omega⟩,by dsimp only;omega,⟨lk rfl (show I _=I _ by congr 1),rfl,trivial⟩,.refl⟩
  ·refine W.exit<|bP<|bP<|gG<|aA<|W.seq<|W.region rfl<|qm rfl rfl rfl<|agb rfl rfl rfl<|Ops.nil ?_
   refine aA<|W.ret ?_
   obtain rfl:m=c:=by omega
   refine mg (vs:=[.slice (some ⟨avi,0,none⟩) m m]) (.inr ⟨avi,X,m,[],by rw[List.length_replicate];rfl,rfl,by rw[hsz,Nat.mul_one],by rw[List.length_replicate];exact Nat.le_refl _,?_,.nil⟩)
   rw[YE,List.map_replicate];exact hX
end Go.aS

/- Marks of loops over functions, at a way out. Conditions: none; over any program. -/
namespace Go.aS
def aup(l:List Nat):ah:=l.map fun d=>(d,.deferred none)
theorem att:∀(l:List Nat),Shut (aup l)
 | []=>.nil
 | d::l=>.cons rfl (att l)
theorem avV{P:Program}{main:Side}{fn:Func}{h:Hp}{R:Value→ah→Prop}{e:Exit}{ρ:Env}:∀{l:List Nat} {G:ah},leave P main fn h R e ρ [] (G++aup l)→leave P main fn h R e ρ (auI l) (G++as3 l)
 | [],G,H=>H
 | d::l,G,H=>by
  refine lvm (U:=fun o=>G++((d,o)::as3 l)) ?_ (At.app At.head)
  have e1:G++((d,.deferred none)::as3 l)=(G++[(d,.deferred none)])++as3 l:=by simp
  show leave P main fn h R e ρ (auI l) (G++((d,.deferred none)::as3 l))
  rw[e1]
  refine avV ?_
  have e2:(G++[(d,Obj.deferred none)])++aup l=G++aup (d::l):=by simp[aup]
  rw[e2];exact H
end Go.aS

/- The room that is needed, as the document has it and as the program has it. Conditions: none; over the given program. -/
namespace Go.aS
set_option maxRecDepth 100000
set_option maxHeartbeats 4000000
def asO(ps:List Pn)(ls:List Lt):Int×Int:=if nV ps≠0 then(0,nV ps)else if Ig ls≠0 then(0,Ig ls)else(((atl ps ls:Nat):Int),0)
theorem auR{m n:Nat}(hn:n≤40):Aw m (List.replicate m (n:Int)):=⟨by simp,fun r hr=>by
 obtain⟨-,rfl⟩:=List.mem_replicate.1 hr
 omega⟩
theorem avj{m i:Nat}{n:Int}(h:i<m):(List.replicate i n++List.replicate (m-i) (0:Int)).set i n=List.replicate (i+1) n++List.replicate (m- (i+1)) 0:=by
 obtain⟨d,hd⟩:∃d,m-i=d+1:=⟨m-i-1,by omega⟩
 rw[List.set_append_right _ _ (by simp),List.length_replicate,Nat.sub_self,hd,List.replicate_succ,List.set_cons_zero,List.replicate_succ',List.append_assoc,show m- (i+1)=d by omega]
 rfl
end Go.aS

/- The room that is needed, as the program has it. Conditions: none; over the given program. -/
namespace Go.aS
set_option maxRecDepth 100000
set_option maxHeartbeats 4000000
theorem avw(main:Side)(h:Hp)(ps:List Pn)(ls:List Lt)(vp vl:Value)(hp:Sl h Pn.row vp ps)(hl:Sl h Lt.row vl ls):Pu prog main atD #[vp,vl] h (.tuple #[I (asO ps ls).1,I (asO ps ls).2]):=by
 obtain⟨a,cap,rfl⟩:=hp.dA
 obtain⟨a2,cap2,rfl⟩:=hl.dA
 refine dV.aG aus rfl (by show 2≤69;decide) [(0,.slice a ps.length cap),(1,.slice a2 ls.length cap2)] ⟨rfl,rfl,trivial⟩ ?_
 have hbe:kU ps []=nV ps:=by unfold kU;split <;>simp_all
 refine W.seq<|W.region rfl ?_
 refine Ops.new (fun wC=>?_)
 refine Ops.new (fun mZ=>?_)
 refine pq<|W.seq<|W.region rfl<|qm rfl rfl rfl ?_
 refine cp (fun h' hE hL=>Am _ h' ps _ [] _ (hp.ext hE) .nil (by simp)) ?_
 refine qm rfl rfl rfl<|oq (bD rfl rfl rfl) rfl wn rfl rfl<|oq (bD rfl rfl rfl) rfl wn rfl rfl ?_
 have hcs:∃cs:Array Value,(if kU ps []=0 then xJ (.slice a ps.length cap) 0 else LZ)= .agg cs∧cs.size=2∧ones cs.toList=true:=by
  split <;>exact⟨_,rfl,rfl,rfl⟩
 obtain⟨cs,hcs,hcs2,hcs1⟩:=hcs
 rw[hcs,hbe]
 refine Ops.new (fun yC=>?_)
 refine Ops.jP (n:=2) (vs:=cs) ?_ (hy:=by rfl) (hn:=hcs2) (h1:=hcs1)
 refine agb rfl rfl rfl<|pq<|W.seq<|W.seq<|W.region rfl<|qm rfl rfl rfl ?_
 refine agW (nG rfl rfl rfl) rfl ?_
 refine pq ?_
 refine W.bC rfl (fun c21=>?_) (fun c21=>?_)
 ·refine W.seq<|W.region rfl<|qm rfl rfl rfl ?_
  refine Ops.yG ?_
  refine Ops.yG ?_
  refine pq<|W.ret<|aY ?_
  have e:asO ps ls=(0,nV ps):=by rw[asO,if_pos (by assumption)]
  rw[e]
  exact QJ (hv:=rSc (rSc zJ)) ⟨rfl,by repeat(first | exact Shut.nil | refine Shut.cons rfl ?_)⟩
 ·have h0:nV ps=0:=by simpa using c21
  have hok:=iP.yB h0
  have Du:=hok.len
  rw[hbe,if_pos h0]at hcs
  cases hcs
  refine W.skip<|aA<|W.seq<|W.seq<|W.region rfl<|qm rfl rfl rfl ?_
  refine cp (fun h' hE hL=>Ov _ h' ls _ (hl.ext hE)) ?_
  refine agb rfl rfl rfl<|pq<|W.seq<|W.region rfl<|qm rfl rfl rfl ?_
  refine agW (nG rfl rfl rfl) rfl ?_
  refine pq ?_
  refine W.bC rfl (fun c26=>?_) (fun c26=>?_)
  ·refine W.seq<|W.region rfl<|qm rfl rfl rfl ?_
   refine Ops.yG ?_
   refine Ops.yG ?_
   refine pq<|W.ret<|aY ?_
   have e:asO ps ls=(0,Ig ls):=by rw[asO,if_neg (by simpa using h0),if_pos (by assumption)]
   rw[e]
   exact QJ (hv:=rSc (rSc zJ)) ⟨rfl,by repeat(first | exact Shut.nil | refine Shut.cons rfl ?_)⟩
  ·have h1:Ig ls=0:=by simpa using c26
   have hlo:=Au.yB h1
   have hl4:=hlo.len
   obtain⟨hn1,hn2,hn3⟩:=atC (ps:=ps) Du hlo.lot
   have hdd:=atg (ps:=ps) hlo.lot
   have e:asO ps ls=(((atl ps ls:Nat):Int),0):=by rw[asO,if_neg (by simpa using h0),if_neg (by simpa using h1)]
   refine W.skip<|aA<|W.seq<|W.region rfl ?_
   refine Ops.new (fun Uw=>?_)
   refine Ops.yG ?_
   refine pq<|W.seq<|W.seq<|W.region rfl<|qm rfl rfl rfl ?_
   refine agW (dM rfl rfl) rfl ?_
   refine qm rfl rfl rfl<|pq<|W.block ?_
   refine W.loop (σ:=Nat) (fun k=>k≤ls.length) (fun k=>[(30,I k),(29,I ls.length),(28,.slice a2 ls.length cap2),(9,bI Uw),(6,bI yC),(5,bI mZ),(4,bI wC),(0,.slice a ps.length cap),(1,.slice a2 ls.length cap2)]) (fun k=>[(Uw,.cells #[I (asD ps (ls.take k))] dL (0,0)),(yC,.cells #[.slice a ps.length cap,U8 0] bG (0,0)),(mZ,.cells #[I 0] Uf (0,0)),(wC,.cells #[I 0] dL (0,0))]) (fun k=>ls.length-k) 0 (Nat.zero_le _) ⟨rfl,rfl,rfl,rfl,rfl,rfl,rfl,rfl,rfl,trivial⟩ .refl ?_
   rintro k hk
   refine W.seq<|W.region rfl ?_
   refine agW (fO rfl rfl rfl) rfl ?_
   refine pq<|W.seq ?_
   refine W.bC rfl (fun c31=>?_) (fun c31=>?_)
   ·have hkl:k<ls.length:=by omega
    obtain⟨l,hlt,-⟩:=has hkl
    have hlk:=hlo.lot l (List.mem_of_getElem? hlt)
    obtain⟨bl,ol,cl,El,fl,hvl,hbl,hxl,hyl,-⟩:=hl.at hlt
    cases hvl
    have ayd:cl.extract (ol+k*2) (ol+k*2+2)= #[I l.qu,I l.po]:=hxl
    clear hxl
    have hacc:=atg (ps:=ps) (ls:=ls.take k) (fun l hl=>hlo.lot l (List.mem_of_mem_take hl))
    rw[List.length_take]at hacc
    have hdt:=auB (ps:=ps) hlt
    refine W.skip<|aA<|W.seq<|W.block<|W.seq<|W.region rfl ?_
    refine ag3 rfl ?_
    refine ag2 rfl ?_
    refine Ops.new (fun KY=>?_)
    refine Ops.jP (vs:= #[I l.qu,I l.po]) ?_
    refine pq<|W.seq<|W.region rfl ?_
    refine ag2 rfl ?_
    refine agY rfl ?_
    refine agX rfl ?_
    refine cp (fun h' hE hL=>Si _ h' ps _ 0 l.qu (hp.ext hE) Du) ?_
    refine agW (xU rfl rfl) rfl ?_
    refine pq ?_
    refine W.cond rfl (fun c38=>?_) (fun c38=>?_)
    ·refine W.region rfl ?_
     refine agX rfl ?_
     refine agY rfl ?_
     refine agX rfl ?_
     refine ag1 rfl ?_
     refine Ops.yG ?_
     refine Ops.nil<|dI<|aA<|W.region rfl ?_
     refine ag1 rfl ?_
     refine qm rfl rfl rfl<|pq ?_
     exact⟨rfl,k+1,hkl,by omega,⟨rfl,rfl,rfl,rfl,rfl,rfl,rfl,rfl,rfl,trivial⟩,.skip rfl (.eq (by rw[hdt,if_neg (by simp_all)];rfl))⟩
    ·refine W.skip<|dI<|aA<|W.region rfl ?_
     refine ag1 rfl ?_
     refine qm rfl rfl rfl<|pq ?_
     exact⟨rfl,k+1,hkl,by omega,⟨rfl,rfl,rfl,rfl,rfl,rfl,rfl,rfl,rfl,trivial⟩,.skip rfl (.eq (by rw[hdt,if_pos (by simp_all),Int.add_zero]))⟩
   ·obtain rfl:k=ls.length:=by omega
    rw[List.take_length]
    refine W.exit<|bP<|bP<|gG<|aA<|W.seq<|W.seq<|W.region rfl ?_
    refine agX rfl ?_
    refine ag1 rfl ?_
    refine qm rfl rfl rfl<|pq<|W.block ?_
    refine W.awj (σ:=Nat×List Nat) (fun t=>auI t.2) (fun t=>(t.1:Int)≤asD ps ls+1∧∀j,j<t.1→ath ps ls j=false) (fun t=>[(46,I t.1),(45,I (asD ps ls+1)),(9,bI Uw),(6,bI yC),(5,bI mZ),(4,bI wC),(0,.slice a ps.length cap),(1,.slice a2 ls.length cap2)]) (fun t=>[(Uw,.cells #[I (asD ps ls)] dL (0,0)),(yC,.cells #[.slice a ps.length cap,U8 0] bG (0,0)),(mZ,.cells #[I 0] Uf (0,0)),(wC,.cells #[I 0] dL (0,0))]++as3 t.2) (fun t=>(asD ps ls).toNat+1-t.1) (0,[]) ⟨by dsimp only;omega,fun j hj=>absurd hj (Nat.not_lt_zero _)⟩ ⟨rfl,rfl,rfl,rfl,rfl,rfl,rfl,rfl,trivial⟩ .refl ?_
    rintro⟨n,mk⟩ ⟨hn,hnj⟩
    dsimp only at*
    refine W.seq<|W.region rfl ?_
    refine agW (fO rfl rfl rfl) rfl ?_
    refine pq<|W.seq ?_
    refine W.bC rfl (fun c47=>?_) (fun c47=>?_)
    ·have hnd:(n:Int)≤asD ps ls:=by omega
     have hro:=auR (m:=ps.length) (n:=n) (by omega)
     have hL4:∀s∈yS ps ls (List.replicate ps.length (n:Int)),(kC s).length=4:=fun s hs=>Qw (by have:=Az hs;omega)
     refine W.skip<|aA<|W.seq<|W.block<|W.seq<|W.region rfl<|qm rfl rfl rfl ?_
     refine Ops.new (fun Yf=>?_)
     refine Ops.yG ?_
     refine pq<|W.seq ?_
     refine W.mono (Q:=(fun e ρ' ds' F'=>e= .normal∧ds'=auI mk∧∃βx X5 vr S,Os dL fH vr (List.replicate ps.length (n:Int)) S∧Sub [(13,bI X5),(12,bI Yf),(46,I n),(45,I (asD ps ls+1)),(9,bI Uw),(6,bI yC),(5,bI mZ),(4,bI wC),(0,.slice a ps.length cap),(1,.slice a2 ls.length cap2)] ρ'∧
       Sb ((X5,.cells #[bI βx] fM (0,0))::(βx,.cells #[.slice a ps.length cap,U8 0,.slice a2 ls.length cap2,vr] xE (0,0))::(S++((Yf,.cells #[I n] dL (0,0))::([(Uw,.cells #[I (asD ps ls)] dL (0,0)),(yC,.cells #[.slice a ps.length cap,U8 0] bG (0,0)),(mZ,.cells #[I 0] Uf (0,0)),(wC,.cells #[I 0] dL (0,0))]++as3 mk)))) F')) ?_ ?_
     ·refine W.rE (n:=11) rfl ?_
      first | refine xq 0 (Bf rfl rfl) rfl ?_ | refine xq 0 (zi rfl rfl) rfl ?_
      refine xq 1 (aN rfl rfl) rfl ?_
      refine xq 2 (iQ rfl rfl) rfl ?_
      refine xq 4 (aN rfl rfl) rfl ?_
      refine xq 5 (dM rfl rfl) rfl ?_
      refine Any.WB (i:=3) (j:=9) (by kernel_rfl) (aU rfl) (aU rfl) an an rfl rfl rfl rfl ?_ ?_
      ·refine DN (parts:=[⟨_,_⟩]) (cs:= #[I n]) rfl rfl (by decide) (by decide) (by kernel_rfl) fun afi _ _=>⟨.inr (by repeat(first | exact fun _ h=>h | apply Keeps.cons | apply Keeps.app)),?_⟩
       refine Any.WB (i:=6) (j:=9) (by kernel_rfl) (aU rfl) (aU rfl) an an rfl rfl rfl rfl ?_ ?_
       ·refine QZ (args:=[_,_]) (A:=[]) rfl rfl (Seg.head (A:=[])) (fun h' hE hL=>atW _ h' n _ ps.length (Sl.mk (hL afi _ (.head _)) rfl (Part.all [I n])) Du) (fun vr A' hv=>?_)
        obtain⟨ar,cr,rfl⟩:=hv.dA
        refine⟨.inr (by repeat(first | exact fun _ h=>h | apply Keeps.cons | apply Keeps.app)),?_⟩
        refine xq 7 (eH rfl rfl rfl) rfl ?_ (hS:=(by repeat(first | exact fun _ h=>h | apply Keeps.cons | apply Keeps.app)))
        refine Any.WB (i:=8) (j:=9) (by kernel_rfl) (aU rfl) (aU rfl) an an rfl rfl rfl rfl ?_ ?_
        ·refine abb rfl rfl (fun βx _ _=>⟨.inr (by repeat(first | exact fun _ h=>h | apply Keeps.cons | apply Keeps.app)),?_⟩)
         refine ae (i:=9) rfl an rfl rfl (wJ rfl (fun X5 _ _=>⟨.inr (by repeat(first | exact fun _ h=>h | apply Keeps.cons | apply Keeps.app)),?_⟩))
         refine ae (i:=10) rfl an rfl rfl (eS rfl rfl rfl ?_)
         refine⟨.inl (by kernel_rfl),?_⟩
         refine az ?_
         refine⟨rfl,rfl,βx,X5,_,A',hv,⟨rfl,rfl,rfl,rfl,rfl,rfl,rfl,rfl,rfl,rfl,trivial⟩,?_⟩
         exact .cons (.cons (.app .refl (.skip rfl .refl)))
        ·refine wJ rfl (fun X5 _ _=>⟨.inr (by repeat(first | exact fun _ h=>h | apply Keeps.cons | apply Keeps.app)),?_⟩)
         refine ae (i:=8) rfl an rfl rfl (abb rfl rfl (fun βx _ _=>⟨.inr (by repeat(first | exact fun _ h=>h | apply Keeps.cons | apply Keeps.app)),?_⟩))
         refine ae (i:=10) rfl an rfl rfl (eS rfl rfl rfl ?_)
         refine⟨.inl (by kernel_rfl),?_⟩
         refine az ?_
         refine⟨rfl,rfl,βx,X5,_,A',hv,⟨rfl,rfl,rfl,rfl,rfl,rfl,rfl,rfl,rfl,rfl,trivial⟩,?_⟩
         refine Sb.trans ?_ (.dF (.swap _ _ _))
         exact .cons (.cons (.app .refl (.skip rfl .refl)))
       ·refine wJ rfl (fun X5 _ _=>⟨.inr (by repeat(first | exact fun _ h=>h | apply Keeps.cons | apply Keeps.app)),?_⟩)
        refine ae (i:=6) rfl an rfl rfl (QZ (args:=[_,_]) (A:=[]) rfl rfl (Seg.head (A:=[])) (fun h' hE hL=>atW _ h' n _ ps.length (Sl.mk (hL afi _ (.tail _ (.head _))) rfl (Part.all [I n])) Du) (fun vr A' hv=>?_))
        obtain⟨ar,cr,rfl⟩:=hv.dA
        refine⟨.inr (by repeat(first | exact fun _ h=>h | apply Keeps.cons | apply Keeps.app)),?_⟩
        refine xq 7 (eH rfl rfl rfl) rfl ?_ (hS:=(by repeat(first | exact fun _ h=>h | apply Keeps.cons | apply Keeps.app)))
        refine ae (i:=8) rfl an rfl rfl (abb rfl rfl (fun βx _ _=>⟨.inr (by repeat(first | exact fun _ h=>h | apply Keeps.cons | apply Keeps.app)),?_⟩))
        refine ae (i:=10) rfl an rfl rfl (eS rfl rfl rfl ?_)
        refine⟨.inl (by kernel_rfl),?_⟩
        refine az ?_
        refine⟨rfl,rfl,βx,X5,_,A',hv,⟨rfl,rfl,rfl,rfl,rfl,rfl,rfl,rfl,rfl,rfl,trivial⟩,?_⟩
        refine Sb.trans ?_ (.dF (.cons _ List.perm_middle.symm))
        refine Sb.trans ?_ (.dF (.swap _ _ _))
        exact .cons (.cons (.app .refl (.skip rfl .refl)))
      ·refine wJ rfl (fun X5 _ _=>⟨.inr (by repeat(first | exact fun _ h=>h | apply Keeps.cons | apply Keeps.app)),?_⟩)
       refine ae (i:=3) rfl an rfl rfl (DN (parts:=[⟨_,_⟩]) (cs:= #[I n]) rfl rfl (by decide) (by decide) (by kernel_rfl) fun afi _ _=>⟨.inr (by repeat(first | exact fun _ h=>h | apply Keeps.cons | apply Keeps.app)),?_⟩)
       refine ae (i:=6) rfl an rfl rfl (QZ (args:=[_,_]) (A:=[]) rfl rfl (Seg.head (A:=[])) (fun h' hE hL=>atW _ h' n _ ps.length (Sl.mk (hL afi _ (.head _)) rfl (Part.all [I n])) Du) (fun vr A' hv=>?_))
       obtain⟨ar,cr,rfl⟩:=hv.dA
       refine⟨.inr (by repeat(first | exact fun _ h=>h | apply Keeps.cons | apply Keeps.app)),?_⟩
       refine xq 7 (eH rfl rfl rfl) rfl ?_ (hS:=(by repeat(first | exact fun _ h=>h | apply Keeps.cons | apply Keeps.app)))
       refine ae (i:=8) rfl an rfl rfl (abb rfl rfl (fun βx _ _=>⟨.inr (by repeat(first | exact fun _ h=>h | apply Keeps.cons | apply Keeps.app)),?_⟩))
       refine ae (i:=10) rfl an rfl rfl (eS rfl rfl rfl ?_)
       refine⟨.inl (by kernel_rfl),?_⟩
       refine az ?_
       refine⟨rfl,rfl,βx,X5,_,A',hv,⟨rfl,rfl,rfl,rfl,rfl,rfl,rfl,rfl,rfl,rfl,trivial⟩,?_⟩
       refine Sb.trans ?_ (.dF (.cons _ (.append_left _ (.swap _ _ _))))
       refine Sb.trans ?_ (.dF (.cons _ List.perm_middle.symm))
       refine Sb.trans ?_ (.dF (.swap _ _ _))
       exact .cons (.cons (.app .refl (.skip rfl .refl)))
     rintro e9 ρ9 ds9 F9 ⟨rfl,rfl,βx,X5,vr,S,hS,hE9,akw⟩
     obtain⟨o,hrm,axC⟩:=aau hS
     rw[List.length_replicate]at hrm
     obtain⟨ar,cr,rfl⟩:=hrm.dA
     refine aA (W.env hE9 (W.sb (F':=([(X5,.cells #[bI βx] fM (0,0)),(Yf,.cells #[I n] dL (0,0)),(Uw,.cells #[I (asD ps ls)] dL (0,0)),(mZ,.cells #[I 0] Uf (0,0)),(wC,.cells #[I 0] dL (0,0))]++Iu o (List.replicate ps.length (n:Int)))++((βx,.cells #[.slice a ps.length cap,U8 0,.slice a2 ls.length cap2,.slice ar ps.length cr] xE (0,0))::(yC,.cells #[.slice a ps.length cap,U8 0] bG (0,0))::as3 mk)) (Sb.trans ?_ akw) ?_))
     ·refine Sb.trans ?_ (.cons (.cons (axC.app .refl)))
      refine .dF (agQ fun y=>?_)
      simp only[List.count_append,List.count_cons,List.count_nil];omega
     refine W.seq<|W.region rfl ?_
     refine agX rfl ?_
     refine c0 (fun h' hE hL=>ab7 _ h' βx) (fun v A' hv=>?_)
     obtain⟨b1,rfl,rfl⟩:=hv
     refine pq<|W.block ?_
     refine W.perm (F':=([(X5,.cells #[bI βx] fM (0,0)),(Yf,.cells #[I n] dL (0,0)),(Uw,.cells #[I (asD ps ls)] dL (0,0)),(mZ,.cells #[I 0] Uf (0,0)),(wC,.cells #[I 0] dL (0,0))]++Iu o (List.replicate ps.length (n:Int)))++((b1,.cells #[bI βx] fM (0,0))::(βx,.cells #[.slice a ps.length cap,U8 0,.slice a2 ls.length cap2,.slice ar ps.length cr] xE (0,0))::(yC,.cells #[.slice a ps.length cap,U8 0] bG (0,0))::as3 mk)) (agQ fun y=>by simp only[List.count_append,List.count_cons,List.count_nil];omega) ?_
     refine W.rangeS (Val:=ab6) (xs:=yS ps ls (List.replicate ps.length (n:Int))) (Iu o (List.replicate ps.length (n:Int))) rfl rfl rfl (fun k A=>(∀s∈(yS ps ls (List.replicate ps.length (n:Int))).take k,Ba ls s≠asD ps ls)∧A=[(X5,.cells #[bI βx] fM (0,0)),(Yf,.cells #[I n] dL (0,0)),(Uw,.cells #[I (asD ps ls)] dL (0,0)),(mZ,.cells #[I 0] Uf (0,0)),(wC,.cells #[I 0] dL (0,0))]) (fun _ _ e A=>e= .ret∧ath ps ls n=true∧A=[(mZ,.cells #[I 0] Uf (0,0)),(wC,.cells #[I n] dL (0,0))]) .head ⟨by simp,rfl⟩
      (fun h' hE hL=>VK _ h' ps ls _ _ _ _ o βx b1 _ _ _ _ hok hlo hro hrm (hp.ext hE) (hl.ext hE) (hL βx _ (.tail _ (.head _))) (hL b1 _ (.head _))) ?_ ?_
     ·rintro k p v S A1 hpk ⟨rfl,rfl⟩ ⟨hno,rfl⟩ l1 h1 hE1 hL1 hS1
      have hpm:=List.mem_of_getElem? hpk
      have agk:=hL4 p hpm
      have hsz:(uV (kC p)).size=4:=by rw[qj,agk]
      have hon:ones (uV (kC p)).toList=true:=Qv
      have hlp:Ba ls (kC p)=Ba ls p:=UA (Az hpm)
      refine W.region rfl ?_
      refine Ops.new (fun aht=>?_)
      first | refine Ops.jP ?_ | refine Ops.nY ?_
      refine Ops.nil ?_
      refine⟨rfl,rfl,fun h2 hE2 hL2=>?_⟩
      intro hS2
      have hbx:=hL2 βx _ (.tail _ (.head _))
      refine W.block<|W.seq ?_
      refine W.avQ (n:=5) rfl ?_
      refine xq 0 (iQ rfl rfl) rfl ?_
      first | refine xq 1 (Bf rfl rfl) rfl ?_ | refine xq 1 (zi rfl rfl) rfl ?_
      refine xq 3 (iQ rfl rfl) rfl ?_
      refine Va (i:=2) (fun h' hE hL=>VL _ h' ls (kC p) _ _ _ βx _ _ hlo agk (hl.ext (hE2.trans hE)) (hE.1 _ _ hbx)) ?_ (hS:=.inr (Keeps.one (.head _) (Keeps.one (.tail _ (.head _)) (Keeps.one (.tail _ (.tail _ (.head _))) (Keeps.one (.tail _ (.tail _ (.tail _ (.head _)))) Keeps.nil)))))
      rw[hlp]
      refine xq 4 (nD rfl rfl rfl) rfl ?_
      refine az ?_
      refine aA ?_
      refine W.bC rfl (fun c65=>?_) (fun c65=>?_)
      ·refine W.seq<|W.region rfl ?_
       refine agX rfl ?_
       refine Ops.yG ?_
       refine Ops.yG ?_
       refine pq<|W.ret<|cZ ?_
       have hc:ath ps ls n=true:=by rw[ath,List.any_eq_true];exact⟨p,hpm,decide_eq_true (by omega)⟩
       exact⟨rfl,.inr ⟨rfl,_,⟨rfl,hc,rfl⟩,.skip rfl (.skip rfl (.skip rfl (.skip rfl .refl)))⟩⟩
      ·refine W.skip<|dI ?_
       refine⟨rfl,.inl ⟨rfl,_,⟨fun s hs=>?_,rfl⟩,.skip rfl .refl⟩⟩
       rw[List.take_add_one,hpk]at hs
       rcases List.mem_append.1 hs with hs | hs
       ·exact hno s hs
       ·simp only[Option.toList_some,List.mem_singleton]at hs
        rw[hs];omega
     ·rintro e2 A2 (⟨rfl,hno,rfl⟩ | ⟨k,p,v,S2,B,hpk,⟨rfl,rfl⟩,⟨rfl,hcan,rfl⟩,rfl⟩) d
      ·refine dI<|dI<|aA<|W.region rfl ?_
       refine ag1 rfl ?_
       refine qm rfl rfl rfl<|pq ?_
       have hc:ath ps ls n=false:=by
        rw[←Bool.not_eq_true,ath,List.any_eq_true]
        rintro⟨s,h2,h3⟩
        rw[List.take_length]at hno
        exact hno s h2 (of_decide_eq_true h3)
       refine⟨(n+1,d::mk),rfl,⟨by dsimp only;omega,fun j hj=>?_⟩,by dsimp only;omega,⟨lk rfl (show I _=I _ by congr 1),rfl,rfl,rfl,rfl,rfl,rfl,rfl,trivial⟩,?_⟩
       ·rcases Nat.lt_or_ge j n with h | h
        ·exact hnj j h
        ·obtain rfl:j=n:=by omega
         exact hc
       ·dsimp only
        show Sb ([(Uw,.cells #[I (asD ps ls)] dL (0,0)),(yC,.cells #[.slice a ps.length cap,U8 0] bG (0,0)),(mZ,.cells #[I 0] Uf (0,0)),(wC,.cells #[I 0] dL (0,0))]++((d,.deferred (some []))::as3 mk)) _
        have hrS:Shut (Iu o (List.replicate ps.length (n:Int))):=by unfold Iu;split;exact .nil;exact .cons rfl .nil
        refine Sb.trans (B:=(d,.deferred (some []))::(([(Uw,.cells #[I (asD ps ls)] dL (0,0)),(mZ,.cells #[I 0] Uf (0,0)),(wC,.cells #[I 0] dL (0,0))]++[])++((yC,.cells #[.slice a ps.length cap,U8 0] bG (0,0))::as3 mk))) (.dF (agQ fun y=>by simp only[List.count_append,List.count_cons,List.count_nil];omega)) ?_
        exact .cons (.app (.app (.skip rfl (.skip rfl .refl)) (.nil hrS)) (.skip rfl (.skip rfl .refl)))
      ·refine cZ<|cZ<|aY<|aY<|cZ<|aY ?_
       first
       | exact absurd (auk Du hlo.lot) (by rw[hnj _ (by omega)];simp)
       | (
         refine lvm (hl:=At.head) ?_
         have e9:∀(X M:ah) (x0 x1 x2 x3:Nat×Obj),x0::(X++(x1::x2::x3::M))=(x0::(X++[x1,x2,x3]))++M:=fun X M x0 x1 x2 x3=>by simp
         rw[e9]
         refine avV ?_
         simp only[List.append_assoc,List.cons_append,List.nil_append,List.append_nil]
         rw[e,aum Du hlo.lot hcan hnj]
         exact QJ (hv:=rSc (rSc zJ)) ⟨rfl,.cons rfl (.cons rfl (.cons rfl ((show Shut (Iu o (List.replicate ps.length (n:Int))) by unfold Iu;split;exact .nil;exact .cons rfl .nil).app (.cons rfl (.cons rfl (.cons rfl (att _)))))))⟩)
    ·refine W.exit<|bP<|bP<|gG<|aA<|W.seq<|W.region rfl ?_
     refine agX rfl ?_
     refine Ops.yG ?_
     refine Ops.yG ?_
     refine pq<|W.ret ?_
     first
     | exact absurd (auk Du hlo.lot) (by rw[hnj _ (by omega)];simp)
     | (
       refine lvm (hl:=At.head) ?_
       have e9:∀(X M:ah) (x0 x1 x2 x3:Nat×Obj),x0::(X++(x1::x2::x3::M))=(x0::(X++[x1,x2,x3]))++M:=fun X M x0 x1 x2 x3=>by simp
       rw[e9]
       refine avV ?_
       simp only[List.append_assoc,List.cons_append,List.nil_append,List.append_nil]
       rw[e,aum Du hlo.lot hcan hnj]
       exact QJ (hv:=rSc (rSc zJ)) ⟨rfl,.cons rfl (.cons rfl (.cons rfl ((show Shut (Iu o (List.replicate ps.length (n:Int))) by unfold Iu;split;exact .nil;exact .cons rfl .nil).app (.cons rfl (.cons rfl (.cons rfl (att _)))))))⟩)
end Go.aS

/- SyrupRoom. Conditions: none; over the given program. -/
namespace Go.aS
set_option maxRecDepth 100000
set_option maxHeartbeats 4000000
theorem av6{m n:Nat}(hn:n≤20):∀r∈List.replicate m (n:Int),0≤r∧r≤20:=fun r hr=>by
 obtain⟨-,rfl⟩:=List.mem_replicate.1 hr
 omega
theorem avx(main:Side)(hS:∀S,main.ok S→∃Fin,S=Mo prog Fin)(hmb:main.b=true)(h:Hp)(nums:List Int)(lv:Value)(Eg:TypeId)(zg:Nat×Nat)(hl:Sl h fH lv nums)(hg:h 0=some (.cells #[Ur qM] Eg zg))(z0:h.z 0):QE prog main auX #[lv] h (.bool true):=by
 refine QE.aG au8 rfl (by show 1≤154;decide) [(0,lv)] ⟨rfl,trivial⟩ ?_
 refine W.seq<|W.region rfl<|agb rfl rfl rfl<|pq<|W.seq<|W.region rfl<|qm rfl rfl rfl ?_
 refine c0 (fun h' hE hL=>VQ _ h' nums lv (hl.ext hE)) (fun v A' hv=>?_)
 obtain⟨b,s0,rfl,rfl⟩:=hv
 refine agb rfl rfl rfl<|pq<|W.seq<|W.region rfl<|qm rfl rfl rfl ?_
 refine cg (A:=[(b,wF lv 0 s0)]) .head (fun h' hE hL=>VT _ h' nums lv b 0 s0 3 (hl.ext hE) (by omega) (by omega)) (fun v A' hv=>?_)
 obtain⟨ps,Sp,k',s',hO,⟨hpl,hck⟩,hk',hsb⟩:=hv
 refine Ops.sb (F':=Sp++[(b,wF lv k' s')]) (by rw[List.append_nil];exact Sb.trans (.dF List.perm_append_comm) hsb) ?_
 have hps:=aaD (by omega) hck
 have hok:=iP.yB hps
 have h4:=hok.len
 refine qm rfl rfl rfl ?_
 refine cg (A:=[(b,wF lv k' s')]) (.app .all) (fun h' hE hL=>am6 _ h' nums lv b k' s' 4 (hl.ext hE) (by omega) (by omega)) (fun v A' hv=>?_)
 obtain⟨ls,Sq,k2,s2,hOl,⟨hll,hlb⟩,hk2,Oh⟩:=hv
 refine Ops.sb (F':=Sp++(Sq++[(b,wF lv k2 s2)])) (.app .refl (Sb.trans (.dF List.perm_append_comm) Oh)) ?_
 refine agb rfl rfl rfl<|agb rfl rfl rfl<|pq ?_
 refine JU hO (fun hz hEz hsl hzs=>?_)
 refine JU hOl (fun hy hEy amK _=>?_)
 obtain⟨a,cap,rfl⟩:=hsl.dA
 obtain⟨a2,cap2,rfl⟩:=amK.dA
 have hgz:=hEy.1 _ _ (hEz.1 _ _ hg)
 replace hsl:=hsl.ext hEy
 have hlz:=hl.ext (hEz.trans hEy)
 refine W.seq<|W.region rfl<|qm rfl rfl rfl<|qm rfl rfl rfl ?_
 refine agW (dM rfl rfl) rfl ?_
 refine cg (A:=[(b,wF lv k2 s2)]) .all (fun h' hE hL=>amY _ h' nums lv b k2 s2 ps.length (hlz.ext hE) (by omega) (by omega)) (fun v A' hv=>?_)
 obtain⟨rs,Sr,k3,s3,hOr,⟨hrl,hrb⟩,hk3,afy⟩:=hv
 obtain⟨o,hrm,axC⟩:=aau hOr
 rw[hrl]at hrm
 refine Ops.sb (F':=Iu o rs++[(b,wF lv k3 s3)]) (Sb.trans (.dF List.perm_append_comm) (Sb.trans (.cons axC) afy)) ?_
 have hE0:=anr hps hll hlb hrl hrb
 obtain⟨-,hlo,hro⟩:=aaA hE0
 obtain⟨ar,cr,hve⟩:=hrm.dA
 subst hve
 have hsh:∀rs':List Int,rs'.length=ps.length→(∀r∈rs',0≤r∧r≤20)→AA ps ls rs'=((oZ ps ls rs').2.headD [],(oZ ps ls rs').1,0):=fun rs' h1 h2=>by
  rw[AA,if_neg (by rw[anr hps hll hlb h1 h2];simp)]
 refine agb rfl rfl rfl<|pq<|W.seq<|W.region rfl<|qm rfl rfl rfl<|qm rfl rfl rfl<|qm rfl rfl rfl ?_
 refine c0 (fun h' hE hL=>YK _ h' ps ls rs _ _ _ (hsl.ext hE) (amK.ext hE) ((aox hrm hrl).2 _ fun b' o' hb=>hL b' o' (List.mem_append_left _ hb))) (fun v A' hv=>?_)
 obtain⟨vg,S4,hv4,hO4,af4⟩:=hv
 rw[hsh rs hrl hrb]at hv4 hO4
 dsimp only at hv4 hO4
 subst hv4
 refine Ops.sb (F':=Iu o rs++[(b,wF lv k3 s3)]) (.left .refl (Sb.trans (.nil hO4.shut) af4).shut) ?_
 refine qm rfl rfl rfl<|oq (bD rfl rfl rfl) rfl wn rfl rfl<|oq (bD rfl rfl rfl) rfl wn rfl rfl<|oq (bD rfl rfl rfl) rfl wn rfl rfl<|agb rfl rfl rfl<|agb rfl rfl rfl<|agb rfl rfl rfl<|pq<|W.seq ?_
 refine W.aiB (σ:=List Int×Nat×Int) (fun t=>t.1.length=ps.length∧(∀r∈t.1,0≤r∧r≤20)∧∀p,rs.getD p 0≤t.1.getD p 0) (fun t=>[(9,I 0),(8,I (oZ ps ls rs).1),(6,.slice ar ps.length cr),(5,.slice a2 ls.length cap2),(4,.slice a ps.length cap)]) (fun t=>Iu o t.1++[(b,wF lv t.2.1 t.2.2)]) ?_ ?_
 ·refine W.seq<|W.region rfl<|qm rfl rfl rfl ?_
  refine agW (dM rfl rfl) rfl ?_
  refine agW (rC rfl rfl rfl) rfl ?_
  refine pq ?_
  refine W.bC rfl (fun c44=>?_) (fun c44=>?_)
  ·have hpos:0<ps.length:=by omega
   refine W.seq<|W.region rfl<|qm rfl rfl rfl<|qm rfl rfl rfl ?_
   refine agW (dM rfl rfl) rfl ?_
   refine ag5 rfl ?_
   refine cg (A:=[(b,wF lv k3 s3)]) (.app .all) (fun h' hE hL=>UC _ h' nums lv b k3 s3 ((ps.length:Int)-1) (hlz.ext hE) (by omega) (by omega)) (fun v A' hv=>?_)
   obtain⟨r,s4,rfl,hr,afA⟩:=hv
   obtain⟨j,rfl⟩:∃j:Nat,r=j:=⟨r.toNat,by omega⟩
   have hjl:j<ps.length:=by omega
   obtain⟨y,rfl⟩:∃y,o=some y:=by
    cases o with
    | none=>have:=hrm.1;omega
    | some y=>exact⟨y,rfl⟩
   obtain⟨βr,tl⟩:=y
   obtain⟨cap5,he5⟩:=hrm
   cases he5
   have hr0:=YC (tl:=tl) (rs:=rs) (p:=j) (by omega)
   have hsz:=Uy (tl:=tl) (rs:=rs) (p:=j) (by omega)
   have hrj:0≤rs.getD j 0∧rs.getD j 0≤20:=by
    rw[List.getD_eq_getElem?_getD,List.getElem?_eq_getElem (by omega)]
    exact hrb _ (List.getElem_mem _)
   refine Ops.sb (F':=[(βr,QK tl rs),(b,wF lv (k3+1) s4)]) (.cons afA) ?_
   refine agb rfl rfl rfl<|pq<|W.region rfl<|qm rfl rfl rfl<|qm rfl rfl rfl<|qm rfl rfl rfl<|qm rfl rfl rfl<|qm rfl rfl rfl ?_
   refine ag3 rfl ?_
   refine agX rfl ?_
   refine cg (A:=[(b,wF lv (k3+1) s4)]) (.tail .all) (fun h' hE hL=>UD _ h' nums lv b (k3+1) s4 (rs.getD j 0) 20 (hlz.ext hE) (by omega) (by omega)) (fun v A' hv=>?_)
   obtain⟨r2,s5,rfl,hr2,anP⟩:=hv
   refine Ops.sb (F':=[(βr,QK tl rs),(b,wF lv (k3+1+1) s5)]) (.cons anP) ?_
   refine ag3 rfl ?_
   refine Ops.yG ?_
   refine Ops.nil ?_
   rw[YD (by omega)]
   refine⟨rfl,rfl,(rs.set j r2,k3+1+1,s5),⟨by rw[List.length_set];exact hrl,fun r hr=>?_,fun p=>?_⟩,⟨rfl,rfl,rfl,rfl,rfl,trivial⟩,.refl⟩
   ·rcases List.mem_or_eq_of_mem_set hr with h1 | h1
    ·exact hrb r h1
    ·omega
   ·dsimp only
    rw[avf (by omega)]
    split
    ·rename_i hpj;subst hpj;omega
    ·exact Int.le_refl _
  ·refine W.skip ?_
   exact⟨rfl,rfl,(rs,k3,s3),⟨hrl,hrb,fun p=>Int.le_refl _⟩,⟨rfl,rfl,rfl,rfl,rfl,trivial⟩,.refl⟩
 ·rintro⟨rs2,k5,s5⟩ ⟨hrl2,axq,hle⟩
  dsimp only at*
  have hbm:=avD (ps:=ps) (ls:=ls) (hrl.trans hrl2.symm) hle
  obtain⟨hn1,hn2,hn3⟩:=atC (ps:=ps) h4 hlo.lot
  have hdd:=atg (ps:=ps) hlo.lot
  have hck0:Ig ls=0:=by
   rw[ji,if_neg (by rw[hps];simp)]at hE0
   by_cases hc:Ig ls=0
   ·exact hc
   ·rw[if_pos hc]at hE0;exact absurd hE0 hc
  have hnf:asO ps ls=(((atl ps ls:Nat):Int),0):=by rw[asO,if_neg (by rw[hps];simp),if_neg (by rw[hck0];simp)]
  refine W.seq<|W.region rfl<|qm rfl rfl rfl<|qm rfl rfl rfl<|qm rfl rfl rfl ?_
  refine c0 (fun h' hE hL=>YK _ h' ps ls rs2 _ _ _ (hsl.ext hE) (amK.ext hE) ((aox hrm hrl2).2 _ fun b' o' hb=>hL b' o' (List.mem_append_left _ hb))) (fun v A' hv=>?_)
  obtain⟨vg2,S5,hv5,hO5,anQ⟩:=hv
  rw[hsh rs2 hrl2 axq]at hv5 hO5
  dsimp only at hv5 hO5
  subst hv5
  have hrS:Shut (Iu o rs2):=by unfold Iu;split;exact .nil;exact .cons rfl .nil
  refine Ops.sb (F':=[]) (.nil ((Sb.trans (.nil hO5.shut) anQ).shut.app (hrS.app (.cons rfl .nil)))) ?_
  refine qm rfl rfl rfl<|oq (bD rfl rfl rfl) rfl wn rfl rfl<|oq (bD rfl rfl rfl) rfl wn rfl rfl<|oq (bD rfl rfl rfl) rfl wn rfl rfl<|agb rfl rfl rfl<|agb rfl rfl rfl<|agb rfl rfl rfl<|pq<|W.seq ?_
  refine W.region rfl<|qm rfl rfl rfl<|qm rfl rfl rfl ?_
  refine cp (fun h' hE hL=>avw _ h' ps ls _ _ (hsl.ext hE) (amK.ext hE)) ?_
  rw[hnf]
  refine qm rfl rfl rfl<|oq (bD rfl rfl rfl) rfl wn rfl rfl<|oq (bD rfl rfl rfl) rfl wn rfl rfl<|agb rfl rfl rfl<|agb rfl rfl rfl<|pq<|W.seq<|W.seq<|W.region rfl ?_
  refine qm rfl rfl rfl ?_
  refine KU (nG rfl rfl rfl) (congrArg Value.bool (show decide ((0:Int)≠0)=false by decide)) rfl wn rfl rfl ?_
  refine qm rfl rfl rfl ?_
  refine oq (aN rfl rfl) rfl (ak rfl rfl rfl) rfl rfl ?_
  refine KU (nG rfl rfl rfl) (congrArg Value.bool (show decide ((0:Int)≠0)=false by decide)) rfl (ak rfl rfl rfl) rfl rfl ?_
  refine agW (iH rfl rfl rfl) rfl ?_
  refine qm rfl rfl rfl ?_
  refine oq (aN rfl rfl) rfl (ak rfl rfl rfl) rfl rfl ?_
  refine KU (nG rfl rfl rfl) (congrArg Value.bool (show decide ((0:Int)≠0)=false by decide)) rfl (ak rfl rfl rfl) rfl rfl ?_
  refine agW (iH rfl rfl rfl) rfl ?_
  refine qm rfl rfl rfl ?_
  refine oq (aN rfl rfl) rfl (ak rfl rfl rfl) rfl rfl ?_
  refine oq (aN rfl rfl) rfl (ak rfl rfl rfl) rfl rfl ?_
  refine KU (rC rfl rfl rfl) (congrArg Value.bool (decide_eq_false (by omega))) rfl (ak rfl rfl rfl) rfl rfl ?_
  refine agW (iH rfl rfl rfl) rfl ?_
  refine qm rfl rfl rfl ?_
  refine oq (aN rfl rfl) rfl (ak rfl rfl rfl) rfl rfl ?_
  refine KU (fO rfl rfl rfl) (congrArg Value.bool (decide_eq_false (by omega))) rfl (ak rfl rfl rfl) rfl rfl ?_
  refine agW (iH rfl rfl rfl) rfl ?_
  refine qm rfl rfl rfl ?_
  refine oq (aN rfl rfl) rfl (ak rfl rfl rfl) rfl rfl ?_
  refine KU (rC rfl rfl rfl) (congrArg Value.bool (decide_eq_false (by omega))) rfl (ak rfl rfl rfl) rfl rfl ?_
  refine agW (iH rfl rfl rfl) rfl ?_
  refine pq ?_
  refine W.bZ ?_
  refine W.skip<|aA<|W.seq<|W.region rfl<|agb rfl rfl rfl<|pq<|W.seq<|W.seq<|W.region rfl ?_
  refine agb rfl rfl rfl<|pq<|W.block ?_
  refine W.loop (σ:=Nat) (fun k=>k≤ls.length) (fun k=>[(17,I k),(16,I (asD ps (ls.take k))),(14,I (atl ps ls)),(5,.slice a2 ls.length cap2),(4,.slice a ps.length cap)]) (fun _=>[]) (fun k=>ls.length-k) 0 (Nat.zero_le _) ⟨rfl,rfl,rfl,rfl,rfl,trivial⟩ .refl ?_
  rintro k hk
  refine W.seq<|W.seq<|W.region rfl<|qm rfl rfl rfl<|qm rfl rfl rfl ?_
  refine agW (dM rfl rfl) rfl ?_
  refine agW (fO rfl rfl rfl) rfl ?_
  refine pq ?_
  refine W.bC rfl (fun c99=>?_) (fun c99=>?_)
  ·have hkl:k<ls.length:=by omega
   obtain⟨l,hlt,-⟩:=has hkl
   have hlk:=hlo.lot l (List.mem_of_getElem? hlt)
   obtain⟨bl,ol,cl,El,fl,hvl,hbl,-,-,hzl⟩:=amK.at hlt
   cases hvl
   have hq2:cl[ol+k*2+0]? =some (I l.qu):=hzl 0 (by decide)
   have hp2:cl[ol+k*2+1]? =some (I l.po):=hzl 1 (by decide)
   have hacc:=atg (ps:=ps) (ls:=ls.take k) (fun l hl=>hlo.lot l (List.mem_of_mem_take hl))
   rw[List.length_take]at hacc
   have hdt:=auB (ps:=ps) hlt
   refine W.skip<|aA<|W.seq<|W.block<|W.seq<|W.region rfl<|qm rfl rfl rfl<|qm rfl rfl rfl<|qm rfl rfl rfl ?_
   refine ag3 rfl ?_
   refine agY rfl ?_
   refine agX rfl ?_
   refine cp (fun h' hE hL=>ah6 _ h' ps _ l.qu (hsl.ext hE) (by omega)) ?_
   refine agW (xU rfl rfl) rfl ?_
   refine pq ?_
   refine W.cond rfl (fun c109=>?_) (fun c109=>?_)
   ·refine W.region rfl<|qm rfl rfl rfl<|qm rfl rfl rfl<|qm rfl rfl rfl ?_
    refine ag3 rfl ?_
    refine agY rfl ?_
    refine agX rfl ?_
    refine ag1 rfl ?_
    refine agb rfl rfl rfl<|Ops.nil<|dI<|aA<|W.region rfl<|qm rfl rfl rfl ?_
    refine ag1 rfl ?_
    refine agb rfl rfl rfl<|pq ?_
    exact⟨rfl,k+1,hkl,by omega,⟨rfl,lk rfl (show I _=I _ by rw[hdt,if_neg (by simp_all)]),rfl,rfl,rfl,trivial⟩,.refl⟩
   ·refine W.skip<|dI<|aA<|W.region rfl<|qm rfl rfl rfl ?_
    refine ag1 rfl ?_
    refine agb rfl rfl rfl<|pq ?_
    exact⟨rfl,k+1,hkl,by omega,⟨rfl,lk rfl (show I _=I _ by rw[hdt,if_pos (by simp_all),Int.add_zero]),rfl,rfl,rfl,trivial⟩,.refl⟩
  ·obtain rfl:k=ls.length:=by omega
   rw[List.take_length]
   refine W.exit<|bP<|bP<|gG<|aA<|W.seq<|W.seq<|W.region rfl<|agb rfl rfl rfl<|Ops.nil ?_
   refine aA<|W.block ?_
   refine W.loop (σ:=Nat) (fun n=>n≤21) (fun n=>[(18,I n),(16,I (asD ps ls)),(14,I (atl ps ls)),(5,.slice a2 ls.length cap2),(4,.slice a ps.length cap)]) (fun _=>[]) (fun n=>21-n) 0 (Nat.zero_le _) ⟨rfl,rfl,rfl,rfl,rfl,trivial⟩ .refl ?_
   rintro n hn
   refine W.seq<|W.seq<|W.region rfl<|qm rfl rfl rfl ?_
   refine agW (Lr rfl rfl rfl) rfl ?_
   refine pq ?_
   refine W.bC rfl (fun axu=>?_) (fun axu=>?_)
   ·have axv:n≤20:=by omega
    refine W.skip<|aA<|W.seq<|W.block<|W.seq<|W.region rfl<|qm rfl rfl rfl ?_
    refine agW (dM rfl rfl) rfl ?_
    refine oe rfl wn rfl rfl (G8 (n:=ps.length) rfl rfl rfl (by omega) (fun avA=>?_))
    rw[show(List.replicate ps.length (I 0)).toArray=uV (List.replicate 0 (n:Int)++List.replicate (ps.length-0) 0) by rw[uV];simp]
    refine agb rfl rfl rfl<|pq<|W.seq<|W.seq<|W.region rfl<|agb rfl rfl rfl<|pq<|W.block ?_
    refine W.loop (σ:=Nat) (fun i=>i≤ps.length) (fun i=>[(20,I i),(19,.slice (some ⟨avA,0,none⟩) ps.length ps.length),(18,I n),(16,I (asD ps ls)),(14,I (atl ps ls)),(5,.slice a2 ls.length cap2),(4,.slice a ps.length cap)]) (fun i=>[(avA,.cells (uV (List.replicate i (n:Int)++List.replicate (ps.length-i) 0)) dL (0,0))]) (fun i=>ps.length-i) 0 (Nat.zero_le _) ⟨rfl,rfl,rfl,rfl,rfl,rfl,rfl,trivial⟩ .refl ?_
    rintro i hi
    refine W.seq<|W.seq<|W.region rfl<|qm rfl rfl rfl<|qm rfl rfl rfl ?_
    refine agW (dM rfl rfl) rfl ?_
    refine agW (fO rfl rfl rfl) rfl ?_
    refine pq ?_
    refine W.bC rfl (fun c127=>?_) (fun c127=>?_)
    ·have hil:i<ps.length:=by omega
     have hsz:0+i*1<(uV (List.replicate i (n:Int)++List.replicate (ps.length-i) 0)).size:=by rw[qj];simp;omega
     refine W.skip<|aA<|W.seq<|W.block<|W.region rfl<|qm rfl rfl rfl<|qm rfl rfl rfl<|qm rfl rfl rfl ?_
     refine ag3 rfl ?_
     refine Ops.yG ?_
     refine Ops.nil<|dI<|aA<|W.region rfl<|qm rfl rfl rfl ?_
     refine ag1 rfl ?_
     refine agb rfl rfl rfl<|pq ?_
     exact⟨rfl,i+1,hil,by omega,⟨rfl,rfl,rfl,rfl,rfl,rfl,rfl,trivial⟩,.eq (by rw[Ux,avj hil])⟩
    ·obtain rfl:i=ps.length:=by omega
     rw[Nat.sub_self,List.replicate_zero,List.append_nil]
     have hbd:=avg (ps:=ps) (ls:=ls) (n:=n) hlo.lot
     have hge:=avE (ps:=ps) (ls:=ls) h4 hlo.lot (n:=n)
     refine W.exit<|bP<|bP<|gG<|aA<|W.seq<|W.region rfl<|qm rfl rfl rfl<|qm rfl rfl rfl<|qm rfl rfl rfl ?_
     refine c0 (fun h' hE hL=>YK _ h' ps ls (List.replicate ps.length (n:Int)) _ _ (.slice (some ⟨avA,0,none⟩) ps.length ps.length) (hsl.ext hE) (amK.ext hE) (Sl.mk (hL avA _ (.head _)) (by simp) (by rw[YE];exact Part.all _))) (fun v A' hv=>?_)
     obtain⟨vg3,S6,hv6,hO6,anR⟩:=hv
     rw[hsh _ (by simp) (av6 axv)]at hv6 hO6
     dsimp only at hv6 hO6
     subst hv6
     refine Ops.sb (F':=[]) (.nil ((Sb.trans (.nil hO6.shut) anR).shut.app (.cons rfl .nil))) ?_
     refine qm rfl rfl rfl<|oq (bD rfl rfl rfl) rfl wn rfl rfl<|oq (bD rfl rfl rfl) rfl wn rfl rfl<|oq (bD rfl rfl rfl) rfl wn rfl rfl<|agb rfl rfl rfl<|agb rfl rfl rfl<|agb rfl rfl rfl<|pq<|W.seq ?_
     refine W.region rfl<|qm rfl rfl rfl ?_
     refine KU (nG rfl rfl rfl) (congrArg Value.bool (show decide ((0:Int)≠0)=false by decide)) rfl wn rfl rfl ?_
     refine qm rfl rfl rfl ?_
     refine oq (aN rfl rfl) rfl (ak rfl rfl rfl) rfl rfl ?_
     refine oq (aN rfl rfl) rfl (ak rfl rfl rfl) rfl rfl ?_
     refine oq (nD rfl rfl rfl) rfl (ak rfl rfl rfl) rfl rfl ?_
     refine oq (aN rfl rfl) rfl (ak rfl rfl rfl) rfl rfl ?_
     refine oq (aN rfl rfl) rfl (ak rfl rfl rfl) rfl rfl ?_
     refine oq (IJ rfl rfl rfl) rfl (ak rfl rfl rfl) rfl rfl ?_
     refine KU (ae9 rfl rfl rfl) (congrArg Value.bool (by
      rw[Bool.not_eq_false',beq_iff_eq,decide_eq_decide,hbd,hge];omega)) rfl (ak rfl rfl rfl) rfl rfl ?_
     refine agW (iH rfl rfl rfl) rfl ?_
     refine pq ?_
     refine W.bZ ?_
     refine W.skip<|dI<|aA<|W.region rfl<|qm rfl rfl rfl ?_
     refine ag1 rfl ?_
     refine agb rfl rfl rfl<|pq ?_
     exact⟨rfl,n+1,by omega,by omega,⟨rfl,rfl,rfl,rfl,rfl,trivial⟩,.refl⟩
   ·refine W.exit<|bP<|bP<|gG<|aA<|W.seq<|W.region rfl ?_
    refine cp (fun h' hE hL=>VW _ h' hS hmb _ _ (hE.1 _ _ hgz)) ?_
    refine agb rfl rfl rfl<|pq<|W.ret ?_
    exact lvq rfl
end Go.aS

/- SyrupRoom's card. Conditions: as the card says; over the given program. -/
namespace Go.Proofs.YtkkdgffaohidnaaGreatDoor
open Go Go.aS
set_option maxRecDepth 100000
set_option maxHeartbeats 4000000
theorem avb:joinedFacts prog auX au2 Rows.syrupRoomSpec Rows.syrupRoomRow=true:=by
 unfold joinedFacts
 repeat' with_reducible refine Bool.and_eq_true_iff.2 ⟨?_,?_⟩
 all_goals first
  | with_reducible exact aci
  | (with_reducible refine makeT ?_;kernel_rfl)
  | (with_reducible refine aeb ?_;kernel_rfl)
  | (as_aux_lemma=>kernel_rfl)
theorem au_:prog.funcNamed Rows.syrupRoomRow.func=some auX:=by kernel_rfl
theorem avo:prog.mainIs=some (true, "dbc29bbb9727fbebaf7429f7266f9d82b5a02ec0969210b724e1ed2dac66cc8d".toList):=ad9
theorem avv:true=Rows.syrupRoomRow.goesBy prog:=by kernel_rfl
theorem avm:true=prog.looks []:=by kernel_rfl
theorem avy:Rows.SyrupRoomSaid:=
 OpenClaim.holds_of_wide_leaving_time auX au2 rfl rfl rfl rfl rfl rfl rfl ⟨rfl,rfl,rfl,rfl,rfl⟩ rfl rfl rfl rfl rfl au_ au8 avb
  (of_decide_eq_true (by kernel_rfl)) (by unfold Func.isWrapper;first | (rw[if_pos (by decide+kernel)];kernel_rfl) | (rw[if_neg (by decide+kernel)];exact⟨rfl,rfl⟩))
  (
   fun os started H enc _ F=>ad7 (s:=Rows.syrupRoomSpec) os started H enc au8 (by kernel_rfl) (by kernel_rfl) (by kernel_rfl) (by kernel_rfl) (by kernel_rfl) rfl (fun _=>rfl)
   (OB (enc:=enc) (C:=Tryz.checked) (os:=os) (X:=fun w _=>laidMetH prog J9 w) (laidWorld os) #[.slice none 0 0] 8 rfl (by kernel_rfl) (by kernel_rfl) (by kernel_rfl) (by kernel_rfl) (by kernel_rfl) (laidWorld_met os _))
   (fun main hS hmb h nums lv Eg zg hl hg z0=>avx main hS hmb h nums lv Eg zg hl hg z0) F)

theorem SyrupRoom_card:Rows.SyrupRoomCardSaid:=
 VZ .later [] [.handle] true (true, "dbc29bbb9727fbebaf7429f7266f9d82b5a02ec0969210b724e1ed2dac66cc8d") true
  avy (fun _ h=>by cases h) (by kernel_rfl) (fun _ h=>by cases h) syrupRoom_row_tie rfl ⟨rfl,rfl⟩ avo rfl
  (
   fun f fn hf hfn=>by
   obtain rfl:f=auX:=(Option.some.inj (au_.symm.trans hf)).symm
   obtain rfl:fn=au2:=(Option.some.inj (au8.symm.trans hfn)).symm
   exact⟨avm,fun j t ht=>by
    rw[show(au2).params= #[nS] by kernel_rfl]at ht
    have h3:t=nS:=by
     rcases j with _ | j
     ·simpa using ht.symm
     ·simp at ht
    subst h3
    exact(show prog.wantsStandIn nS=false by kernel_rfl)⟩)
  avv
#print axioms SyrupRoom_card
end Go.Proofs.YtkkdgffaohidnaaGreatDoor
