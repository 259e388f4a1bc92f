/- What is reached in so many steps, as the laws find it. Conditions: none; no program in sight. (And 36 texts more.) -/
import Derived.Test.YtkkdgffaohidnaaGreatDoorR10
import Derived.Test.YtkkdgffaohidnaaGreatDoorR13
import Derived.Test.YtkkdgffaohidnaaGreatDoorR11
import Derived.Test.YtkkdgffaohidnaaGreatDoorR12
import Derived.Test.YtkkdgffaohidnaaGreatDoorR14
set_option linter.unusedVariables false
set_option linter.unusedSimpArgs false
set_option linter.unusedSectionVars false

/- What is reached in so many steps, as the laws find it. Conditions: none; no program in sight. -/
namespace Go.aS
set_option linter.unusedVariables false
end Go.aS

/- Operations that come up in any order and only add to what is owned. Conditions: none; over any program. -/
namespace Go.aS
abbrev Spc:=Nat×Nat×(Value→ah→Prop)
def waits(ops:Array Oper):Nat→Nat→Nat→Bool
 | 0,_,_=>false
 | n+1,k,b=>match ops[k]? with | some o=>o.after.any fun e=>iG e&&(Nat.beq e.on b|| waits ops n e.on b) | none=>false
structure Y4(ops:Array Oper)(listed:Nat)(B:List Nat):Prop where
 cl:Closed ops listed
 low:∀k o,ops[k]? =some o→∀e∈o.after,iG e=true→e.on<k
 or:∀k,k<ops.size→listed.testBit k=false→k∈B∨∀b∈B,waits ops 6 k b=true
 un:∀b∈B,b<ops.size∧listed.testBit b=false
 nd:B.Nodup

theorem Y4.some{ops:Array Oper}{listed:Nat}{B:List Nat}(h:Y4 ops listed B){b:Nat}(hb:b∈B):qx ops listed≠[]:=by
 have key:∀(n k:Nat),k<n→k<ops.size→listed.testBit k=false→∃i,Fq ops listed i=true:=by
  intro n
  induction n with
  | zero=>intro k hk;omega
  | succ n ih=>
   intro k hk hlt hl
   by_cases hr:Fq ops listed k=true
   ·exact⟨k,hr⟩
   ·simp only[Fq,Array.getElem?_eq_getElem hlt,hl,Bool.not_false,Bool.true_and,Array.all_eq_true_iff_forall_mem,Bool.or_eq_true,Bool.not_eq_true']at hr
    have:∃e∈(ops[k]).after,iG e=true∧listed.testBit e.on=false:=by
     refine Classical.byContradiction fun hn=>hr fun e he=>?_
     cases hbe:iG e with
     | false=>exact .inl rfl
     | true=>
      cases ht:listed.testBit e.on with
      | true=>exact .inr rfl
      | false=>exact absurd ⟨e,he,hbe,ht⟩ hn
    obtain⟨e,he,h1,h2⟩:=this
    have:=h.low k _ (Array.getElem?_eq_getElem hlt) e he h1
    exact ih e.on (by omega) (by omega) h2
 obtain⟨i,hi⟩:=key (b+1) b (by omega) (h.un b hb).1 (h.un b hb).2
 intro e
 have:=o8.2 hi
 rw[e]at this
 cases this

theorem Y4.step{ops:Array Oper}{listed j:Nat}{B1 B2:List Nat}(h:Y4 ops listed (B1++j::B2))(hj:Fq ops listed j=true):Y4 ops (listed||| 2 ^ j) (B1++B2):=by
 have hnd:j∉B1++B2:=by
  have:=(List.perm_middle (a:=j) (l₁:=B1) (l₂:=B2)).nodup_iff.1 h.nd
  exact(List.nodup_cons.1 this).1
 refine⟨h.cl.step hj,h.low,fun k hk hl=>?_,fun b hb=>?_,?_⟩
 ·rw[testBit_or,Bool.or_eq_false_iff]at hl
  have hne:j≠k:=by simpa using hl.2
  rcases h.or k hk hl.1 with h' | h'
  ·left
   rcases List.mem_append.1 h' with h' | h'
   ·exact List.mem_append_left _ h'
   ·rcases List.mem_cons.1 h' with h' | h'
    ·exact absurd h'.symm hne
    ·exact List.mem_append_right _ h'
  ·right
   intro b hb
   refine h' b ?_
   rcases List.mem_append.1 hb with hb | hb
   ·exact List.mem_append_left _ hb
   ·exact List.mem_append_right _ (List.mem_cons_of_mem _ hb)
 ·have hb':b∈B1++j::B2:=by
   rcases List.mem_append.1 hb with hb | hb
   ·exact List.mem_append_left _ hb
   ·exact List.mem_append_right _ (List.mem_cons_of_mem _ hb)
  refine⟨(h.un b hb').1,?_⟩
  rw[testBit_or,(h.un b hb').2,Bool.false_or,decide_eq_false_iff_not]
  rintro rfl
  exact hnd hb
 ·have:=(List.perm_middle (a:=j) (l₁:=B1) (l₂:=B2)).nodup_iff.1 h.nd
  exact(List.nodup_cons.1 this).2

def Adds(x:Cx)(ops:Array Oper)(ε:Ev)(s:Spc):Prop:=
 ∃o,ops[s.1]? =some o∧o.dst=some s.2.1∧d_ o.dst x.n=true∧(∀c,o.op≠ .defer c)∧o.guard=none∧∀e,Cons ε e→∀F,Dx x o e F fun v F'=>∃A Lp,Lp.Perm F'∧s.2.2 v A∧Lp=A++F

theorem Cons.back{ε:Ev}{d:Nat}{v:Value}{e:Operand→Value}(h:Cons (upd ε (some d) v) e)(hd:ε d=none):Cons ε e:=fun y u hy=>h y u (by
 cases y with
 | tmp t=>
  simp only[UK,upd]at hy⊢
  cases hb:Nat.beq t d with
  | true=>rw[Nat.eq_of_beq_eq_true hb,hd]at hy;cases hy
  | false=>exact hy
 | _=>exact hy)

section rules
variable{x:Cx}{Q:Post}{ρ:Env}{ds:List Deferred}{F:ah}{ops:Array Oper}{L:ah}{fuel listed:Nat}
theorem Adds.of{i d:Nat}{P:Value→ah→Prop}{op:Op}{ty:TypeId}{pos:String}{bK:Array Edge}(ho:cO ops.toList i=some ⟨some d,op,ty,pos,bK,none⟩)(hd:Nat.blt d x.n=true)(hn:cu op=true)(H:∀F,Ef x ρ ⟨some d,op,ty,pos,bK,none⟩ F fun v F'=>∃A,P v A∧F'=A++F):Adds x ops (look ρ) (i,d,P):=
 ⟨_,aU ho,rfl,hd,gI hn,rfl,fun e he F=>(H F e fun y v hy=>he y v (by rw[DC];exact hy)).mono fun v F' ⟨Lp,p,A,hv,e⟩=>⟨A,Lp,p,hv,e⟩⟩
theorem Adds.call{i d f:Nat}{P:Value→ah→Prop}{args:List Operand}{ts:Array TypeId}{vs:List Value}{ty:TypeId}{pos:String}{bK:Array Edge}(H:∀h',Ext x.h h'→dV x.P x.main f vs.toArray h' [] P)(ho:cO ops.toList i=some ⟨some d,.call ⟨.value (.func f),args.toArray,ts⟩,ty,pos,bK,none⟩:=by rfl)[FB x.P f](hv:evs ρ args=some vs:=by rfl)(hd:Nat.blt d x.n=true:=by rfl):Adds x ops (look ρ) (i,d,P):=
 .of ho hd rfl fun F=>lQ rfl hv (fun h' hE _=>H h' hE) fun v A' hv=>⟨A',hv,rfl⟩
end rules
end Go.aS
namespace Go.aS
section
variable{α:Type}{row:α→List Value}{w:Nat}[rw':Rw row w]
section
variable{x:Cx}{ρ:Env}{F:ah}{o:Oper}{R:Value→ah→Prop}
end
end
section
variable{x:Cx}{S:ah→Prop}{ρ:Env}{o:Oper}
end
end Go.aS
namespace Go.aS
section
variable{x:Cx}{Q:Post}{ρ:Env}{ds:List Deferred}{ops:Array Oper}{G:ah}{y₁ y₂ y₃ y₄ agp agq:Nat×Obj}{id n:Nat}
end
theorem agQ{α:Type}{l l':List α}(h:∀[DecidableEq α] (a:α),l.count a=l'.count a):l.Perm l':=by
 classical
 exact List.perm_iff_count.2 fun a=>h a
end Go.aS
namespace Go.aS
theorem Os.open{α:Type}{row:α→List Value}{w:Nat}[Rw row w]{E:TypeId}{a:Option Addr}{n cap:Nat}{l:List α}{A:ah}(h:Os E row (.slice a n cap) l A)(hne:0<l.length):∃β c J,a=some ⟨β,0,none⟩∧A=(β,.cells c E (0,0))::J∧n=l.length∧c.size=cap*w∧l.length≤cap∧Part c 0 (flat row l)∧Shut J:=by
 rcases h with⟨rfl,_,_⟩ | ⟨β,c,cp,J,hv,rfl,h1,h2,h3,h4⟩
 ·simp at hne
 ·injection hv with e1 e2 e3
  subst e1 e2 e3
  exact⟨β,c,J,rfl,rfl,rfl,h1,h2,h3,h4⟩
end Go.aS

/- Slices of slices; makeSlice. Conditions: none; over any program. -/
namespace Go.aS
structure Sv where
  a:Option Addr
  n:Nat
  cap:Nat
abbrev Sv.val(s:Sv):Value:=.slice s.a s.n s.cap
def ags(s:Sv):List Value:=[.slice s.a s.n s.cap]
instance:Rw ags 1:=⟨fun _=>rfl,fun _=>rfl⟩

section
variable{α:Type}{row:α→List Value}{w:Nat}[rw':Rw row w]{E:TypeId}
inductive UG(E:TypeId)(row:α→List Value)[Rw row w]:List Sv→List (List α)→ah→Prop
  | nil:UG E row [] [] []
  | cons {s:Sv} {l:List α} {A B:ah} {vs:List Sv} {ls:List (List α)}:Os E row s.val l A→UG E row vs ls B→UG E row (s::vs) (l::ls) (A++B)
theorem UG.len{vs:List Sv}{ls:List (List α)}{A:ah}(h:UG E row vs ls A):vs.length=ls.length:=by
  induction h with
  | nil=>rfl
  | cons _ _ ih=>simp[ih]
theorem UG.shut{vs:List Sv}{ls:List (List α)}{A:ah}(h:UG E row vs ls A):Shut A:=by
  induction h with
  | nil=>exact .nil
  | cons h _ ih=>exact h.shut.app ih
theorem UG.snoc{vs:List Sv}{ls:List (List α)}{A B:ah}{s:Sv}{l:List α}(h:UG E row vs ls A)(hs:Os E row s.val l B):UG E row (vs++[s]) (ls++[l]) (A++B):=by
  induction h with
  | nil=>have:=UG.cons hs .nil;simpa using this
  | cons h1 _ ih=>have:=UG.cons h1 ih;rw[←List.append_assoc]at this;exact this
theorem UG.sl{vs:List Sv}{ls:List (List α)}{A:ah}{h':Hp}(h:UG E row vs ls A)(hL:∀b o,(b,o)∈A→h' b=some o):∀{k:Nat} {s:Sv} {l:List α},vs[k]? =some s→ls[k]? =some l→Sl h' row s.val l:=by
  induction h with
  | nil=>intro k s l hs;simp at hs
  | cons h1 _ ih=>
    intro k s l hs hl
    rcases k with _ | k
    · simp at hs hl;subst hs hl
      exact h1.sl fun b o hb=>hL b o (List.mem_append_left _ hb)
    · simp at hs hl
      exact ih (fun b o hb=>hL b o (List.mem_append_right _ hb)) hs hl
theorem agG{x:Cx}{c:Code}{Q:Post}{ρ:Env}{ds:List Deferred}{A F:ah}{vs:List Sv}{ls:List (List α)}(hs:UG E row vs ls A)
    (H:∀h',Ext x.h h'→(∀(k:Nat) (s:Sv) (l:List α),vs[k]? =some s→ls[k]? =some l→Sl h' row s.val l∧Zs h' s.val)→W {x with h:=h'} c Q ρ ds F):W x c Q ρ ds (A++F):=by
  induction hs generalizing x with
  | nil=>exact H x.h ⟨fun _ _ q=>q,fun _ q=>q⟩ fun k s l hk=>by simp at hk
  | cons h1 h2 ih=>
    rw[List.append_assoc]
    refine JU h1 fun h' hE hsl hz=>ih (x:={x with h:=h'}) fun h'' hE' hall=>H h'' (hE.trans hE') fun k s l hk hl=>?_
    rcases k with _ | k
    · simp at hk hl;subst hk hl
      exact⟨hsl.ext hE',hz.ext hE'⟩
    · simp at hk hl
      exact hall k s l hk hl
theorem Sv.eta{v:Value}{l:List α}{A:ah}(h:Os E row v l A):∃s:Sv,v=s.val:=by
  obtain⟨a,cap,rfl⟩:=h.dA
  exact⟨⟨a,_,cap⟩,rfl⟩
end
/-! makeSlice -/
section
variable{x:Cx}{ρ:Env}{F:ah}{o:Oper}{R:Value→ah→Prop}
theorem G8{t E by' n:Nat}{z:Value}{y y':Operand}(ho:o.op= .makeSlice t y y')[TD x.P t (.slice E)][TI x.P E 1 by' z #[z]](hy:ev ρ y=some (.int .i64 (n:Int)))(hy':ev ρ y'=some (.int .i64 (n:Int)))(hb:by'*n≤2 ^ 48∧n≤1000000)
    (K:∀β,R (.slice (some ⟨β,0,none⟩) n n) ((β,.cells (List.replicate n z).toArray E (0,0))::F)):Ef x ρ o F R:=
  Ef.xW fun e he h' hE=>by
    obtain⟨j,hj,hj1,hj2,hj3,hj4⟩:=TI.out (inferInstance:TI x.P E 1 by' z #[z])
    have hw:IntKind.i64.wrap (n:Int)=n:=nC (by omega) (by omega)
    have c1:¬((n:Int)<0):=by omega
    have c2:¬((by':Int)*(n:Int)>2 ^ 48):=by
                                                         have:((by'*n:Nat):Int)≤2 ^ 48:=by exact_mod_cast hb.1
                                                         rw[Int.natCast_mul]at this;omega
    have c3:¬((n:Int)>n):=by omega
    simp only[execOp,ho,he y _ hy,he y' _ hy',Instr.makeSlice,asInt,asIntOf,bind_eq,au,bind_assoc,bind_pure,aC,dJ hj,hj2,hw]
    simp only[c1,c2,c3,decide_false,Bool.or_false,Bool.false_eq_true,if_false]
    have room:∀{β:Type} {f:Unit→Sem β} {Q':β→ah→Prop},tr x.P h' (f ()) F Q'→tr x.P h' ((askRoom (((n:Int).toNat)*by')).bind f) F Q':=by
      intro β f Q' H
      unfold askRoom
      split
      · exact⟨rfl,H⟩
      · exact H
    refine bJ (room ?_)
    simp only[dH,Int.toNat_natCast,Nat.mul_one]
    have harr:(Array.range n).map (fun i=>(#[z]:Array Value)[i % (#[z]:Array Value).size]!)=(List.replicate n z).toArray:=by
      apply Array.ext
      · simp
      · intro i h1 h2
        simp[Nat.mod_one]
    by_cases h0:n=0
    · subst h0
      have e0:(Array.range 0).map (fun x=>(#[]:Array Value)[x % (#[]:Array Value).size]!)=(List.replicate 0 z).toArray:=by simp
      simp only[if_true,newRow,bind_eq,au,bind_assoc,bind_pure,e0]
      exact wI fun r h1 h2=>⟨_,.inl rfl,K r⟩
    · simp only[if_neg h0,fG,hj4,newRow,bind_eq,au,bind_assoc,bind_pure,harr]
      exact wI fun r h1 h2=>⟨_,.inl rfl,K r⟩
end
end Go.aS

/- Sets of qualities, as the laws keep them. Conditions: none; over the given program. -/
namespace Go.aS
set_option maxRecDepth 100000
set_option maxHeartbeats 4000000
abbrev V9(β:Nat):Value:=.slice (some ⟨β,0,none⟩) 13 13
abbrev bsO(f:Nat→Bool):Obj:=.cells (bA f) RS (0,0)
end Go.aS

/- SyrupLongest. Conditions: none; over the given program. -/
namespace Go.aS
set_option maxRecDepth 100000
set_option maxHeartbeats 4000000
end Go.aS

/- What goes round for ever comes to a ring. Conditions: none; no program in sight. -/
namespace Go.aS
set_option linter.unusedVariables false
end Go.aS

/- All ways of so many steps; the first of them. Conditions: none; no program in sight. -/
namespace Go.aS
set_option linter.unusedVariables false
def af7(m:Nat):Nat→List (List Nat)
 | 0=>[[]]
 | k+1=>(af7 m k).flatMap fun l=>(List.range m).map fun y=>l++[y]
theorem afh{m:Nat}:∀{k:Nat} {v:List Nat},v∈af7 m k↔v.length=k∧∀y∈v,y<m
 | 0,v=>by
  simp only[af7,List.mem_singleton]
  constructor
  ·rintro rfl;exact⟨rfl,by simp⟩
  ·rintro⟨h,-⟩;exact List.length_eq_zero_iff.1 h
 | k+1,v=>by
  simp only[af7,List.mem_flatMap,List.mem_map,List.mem_range]
  constructor
  ·rintro⟨l,hl,y,hy,rfl⟩
   obtain⟨h1,h2⟩:=afh.1 hl
   refine⟨by simp[h1],fun z hz=>?_⟩
   rcases List.mem_append.1 hz with hz | hz
   ·exact h2 z hz
   ·rw[List.mem_singleton.1 hz];exact hy
  ·rintro⟨h1,h2⟩
   rcases List.eq_nil_or_concat v with rfl | ⟨r,p,rfl⟩
   ·cases h1
   ·rw[List.concat_eq_append]at*
    exact⟨r,afh.2 ⟨by simpa using h1,fun y hy=>h2 y (by simp[hy])⟩,p,h2 p (by simp),rfl⟩
end Go.aS

/- All lists of so many numbers, as a program makes them; all ascending ones. Conditions: none; no program in sight. -/
namespace Go.aS
set_option linter.unusedVariables false
def af9(g:List Int)(y:Nat):List (List Int):=(List.range y).map fun(y:Nat)=>g++[(y:Int)]
def afb(m:Nat)(H:List (List Int))(x:Nat):List (List Int):=(H.take x).flatMap fun g=>af9 g m
def aff(m:Nat):Nat→List (List Int)
 | 0=>[[]]
 | k+1=>afb m (aff m k) (aff m k).length
theorem agJ{g:List Int}{y:Nat}:af9 g (y+1)=af9 g y++[g++[(y:Int)]]:=by simp[af9,List.range_succ]
theorem agx{g:List Int}{y:Nat}:(af9 g y).length=y:=by simp[af9]
theorem afY{m x:Nat}{H:List (List Int)}{g:List Int}(h:H[x]? =some g):afb m H (x+1)=afb m H x++af9 g m:=by
 rw[afb,List.take_add_one,h,List.flatMap_append];simp[afb]
theorem afx{m:Nat}{H:List (List Int)}:∀{x:Nat},(afb m H x).length≤m*x
 | 0=>by simp[afb]
 | x+1=>by
  rcases Nat.lt_or_ge x H.length with h | h
  ·rw[afY (List.getElem?_eq_getElem h),List.length_append,agx,Nat.mul_succ]
   have:=afx (m:=m) (H:=H) (x:=x);omega
  ·have:afb m H (x+1)=afb m H x:=by rw[afb,afb,List.take_of_length_le h,List.take_of_length_le (by omega)]
   rw[this,Nat.mul_succ]
   have:=afx (m:=m) (H:=H) (x:=x);omega
theorem afL{m:Nat}:∀{k:Nat},aff m k=(af7 m k).map zs
 | 0=>rfl
 | k+1=>by
  rw[aff,afb,List.take_length,afL,af7,List.flatMap_map,List.map_flatMap]
  refine congrArg (fun f=>List.flatMap f _) (funext fun l=>?_)
  rw[af9,List.map_map]
  exact List.map_congr_left fun y _=>by simp[zs]
theorem agD{m:Nat}:∀{k:Nat},(aff m k).length≤m ^ k
 | 0=>by simp[aff]
 | k+1=>by
  rw[aff,Nat.pow_succ,Nat.mul_comm]
  exact Nat.le_trans afx (Nat.mul_le_mul_left m agD)
theorem agc{m k:Nat}(hm:m≤4)(hk:k≤5):(aff m k).length≤1024:=
 Nat.le_trans agD (Nat.le_trans (Nat.pow_le_pow_left hm k) (Nat.le_trans (Nat.pow_le_pow_right (by omega) hk) (by decide)))
theorem agE{m:Nat}:∀{k:Nat} {g:List Int},g∈aff m k→g.length=k:=by
 intro k g h
 rw[afL]at h
 obtain⟨l,hl,rfl⟩:=List.mem_map.1 h
 rw[kT];exact(afh.1 hl).1
end Go.aS

/- All lists of so many numbers. Conditions: none; over the given program. -/
namespace Go.aS
set_option maxRecDepth 100000
set_option maxHeartbeats 4000000
theorem agz(main:Side)(h:Hp)(n k:Nat)(hn:n≤4)(hk:k≤5):dV prog main adU #[I n,I k] h [] (fun v A=>∃O us B,Os nS ags v us O∧UG dL fH us (aff n k) B∧Sb (O++B) A):=by
 refine dV.aG aeX rfl (by show 2≤40;decide) [(0,I n),(1,I k)] ⟨rfl,rfl,trivial⟩ ?_
 refine W.seq<|W.region rfl<|agb rfl rfl rfl<|pq<|W.seq<|W.region rfl ?_
 refine Ops.NK (cs:= #[.slice none 0 0]) (fun Oj=>?_) rfl
 refine agb rfl rfl rfl<|pq<|W.seq<|W.seq<|W.region rfl<|agb rfl rfl rfl<|pq<|W.block ?_
 have hO0:Os nS ags (.slice (some ⟨Oj,0,none⟩) 1 1) [(⟨none,0,0⟩:Sv)] [(Oj,.cells #[.slice none 0 0] nS (0,0))]:=.inr ⟨Oj,_,1,[],rfl,rfl,rfl,Nat.le_refl _,Part.all _,.nil⟩
 have hB0:UG dL fH [(⟨none,0,0⟩:Sv)] (aff n 0) []:=by
  have:=UG.cons (E:=dL) (row:=fH) (s:=(⟨none,0,0⟩:Sv)) (l:=[]) (.nil .nil) .nil
  exact this
 refine W.loop (σ:=Nat×List Sv×Option Addr×Nat×ah×ah) (fun q=>q.1≤k∧Os nS ags (.slice q.2.2.1 q.2.1.length q.2.2.2.1) q.2.1 q.2.2.2.2.1∧UG dL fH q.2.1 (aff n q.1) q.2.2.2.2.2) (fun q=>[(6,I q.1),(5,.slice q.2.2.1 q.2.1.length q.2.2.2.1),(0,I n),(1,I k)]) (fun q=>q.2.2.2.2.1++q.2.2.2.2.2) (fun q=>k-q.1) (0,[⟨none,0,0⟩],some ⟨Oj,0,none⟩,1,[(Oj,.cells #[.slice none 0 0] nS (0,0))],[]) ⟨Nat.zero_le _,hO0,hB0⟩ ⟨rfl,rfl,rfl,rfl,trivial⟩ .refl ?_
 rintro⟨i,us,sa,sc,O,B⟩ ⟨hi,hO,hB⟩
 dsimp only at*
 refine W.seq<|W.seq<|W.region rfl<|qm rfl rfl rfl<|qm rfl rfl rfl ?_
 refine agW (fO rfl rfl rfl) rfl ?_
 refine pq ?_
 refine W.bC rfl (fun c13=>?_) (fun c13=>?_)
 ·have hi1:i<k:=by omega
  have hHl:=agc (m:=n) (k:=i) hn (by omega)
  have hul:=hB.len
  have hat:∀g∈aff n i,g.length=i:=fun g=>agE
  have hnx:aff n (i+1)=afb n (aff n i) (aff n i).length:=rfl
  generalize aff n i=H at*
  refine W.skip<|aA<|W.seq<|W.block<|W.seq<|W.region rfl<|agb rfl rfl rfl<|pq<|W.seq ?_
  refine W.seq<|W.region rfl<|agb rfl rfl rfl<|pq<|W.block ?_
  refine W.loop (σ:=Nat×List Sv×Option Addr×Nat×ah×ah) (fun q=>q.1≤us.length∧Os nS ags (.slice q.2.2.1 q.2.1.length q.2.2.2.1) q.2.1 q.2.2.2.2.1∧UG dL fH q.2.1 (afb n H q.1) q.2.2.2.2.2) (fun q=>[(8,I q.1),(7,.slice q.2.2.1 q.2.1.length q.2.2.2.1),(6,I i),(5,.slice sa us.length sc),(0,I n),(1,I k)]) (fun q=>(O++B)++(q.2.2.2.2.1++q.2.2.2.2.2)) (fun q=>us.length-q.1) (0,[],none,0,[],[]) ⟨Nat.zero_le _,.nil .nil,.nil⟩ ⟨rfl,rfl,rfl,rfl,rfl,rfl,trivial⟩ (by simp only[List.append_nil];exact .refl) ?_
  rintro⟨x,ns,na,nc,N,C⟩ ⟨hx,hN,hC⟩
  dsimp only at*
  refine W.seq<|W.seq<|W.region rfl<|qm rfl rfl rfl<|qm rfl rfl rfl ?_
  refine agW (dM rfl rfl) rfl ?_
  refine agW (fO rfl rfl rfl) rfl ?_
  refine pq ?_
  refine W.bC rfl (fun c19=>?_) (fun c19=>?_)
  ·have hx1:x<us.length:=by omega
   obtain⟨g,hg,-⟩:=has (show x<H.length by omega)
   obtain⟨s,hs0,-⟩:=has hx1
   have hgl:g.length=i:=hat g (List.mem_of_getElem? hg)
   have hss:=afY (m:=n) hg
   have hsl:=afx (m:=n) (H:=H) (x:=x)
   have hsl2:n*x≤4*1024:=Nat.mul_le_mul hn (by omega)
   obtain⟨βo,co',Jo,hsa,hOe,-,-,-,hPo,-⟩:=hO.open (by omega)
   subst hsa
   have hcell:co'[0+x*1+0]? =some (.slice s.a s.n s.cap):=hPo.Bo hs0 0 (by decide)
   refine W.skip<|aA<|W.seq<|W.block<|W.seq<|W.region rfl<|agb rfl rfl rfl<|pq<|W.block ?_
   refine W.loop (σ:=Nat×List Sv×Option Addr×Nat×ah×ah) (fun q=>q.1≤n∧Os nS ags (.slice q.2.2.1 q.2.1.length q.2.2.2.1) q.2.1 q.2.2.2.2.1∧UG dL fH q.2.1 (afb n H x++af9 g q.1) q.2.2.2.2.2) (fun q=>[(9,I q.1),(8,I x),(7,.slice q.2.2.1 q.2.1.length q.2.2.2.1),(6,I i),(5,.slice (some ⟨βo,0,none⟩) us.length sc),(0,I n),(1,I k)]) (fun q=>(O++B)++(q.2.2.2.2.1++q.2.2.2.2.2)) (fun q=>n-q.1) (0,ns,na,nc,N,C) ⟨Nat.zero_le _,hN,by simpa[af9]using hC⟩ ⟨rfl,rfl,rfl,rfl,rfl,rfl,rfl,trivial⟩ .refl ?_
   clear hN hC
   rintro⟨y,ns,na,nc,N,C⟩ ⟨hy,hN,hC⟩
   dsimp only at*
   refine W.seq<|W.seq<|W.region rfl<|qm rfl rfl rfl<|qm rfl rfl rfl ?_
   refine agW (fO rfl rfl rfl) rfl ?_
   refine pq ?_
   refine W.bC rfl (fun c24=>?_) (fun c24=>?_)
   ·have hy1:y<n:=by omega
    have hnl:ns.length≤4*1024+4:=by
     rw[hC.len,List.length_append,agx];omega
    refine W.skip<|aA<|W.seq<|W.block<|W.region rfl<|qm rfl rfl rfl<|qm rfl rfl rfl<|qm rfl rfl rfl ?_
    refine ag3 rfl ?_
    refine agW (iQ rfl rfl (.inr (fun _ e=>by subst e;exact List.mem_append_left _ (List.mem_append_left _ (by rw[hOe];exact .head _)))) hcell) rfl ?_
    refine c0 (fun h' hE hL=>af0 _ h' g s.val (hB.sl (fun b o hb=>hL b o (List.mem_append_left _ (List.mem_append_right _ hb))) hs0 hg) (by omega)) (fun v A' hv=>?_)
    obtain⟨S,hS,hsb⟩:=hv
    refine Ops.sb (hsb.app .refl) ?_
    refine qm rfl rfl rfl ?_
    refine Ops.NK (cs:= #[I y]) (fun ahd=>?_) rfl
    refine oe rfl wn rfl rfl (iW (row:=fH) (l':=[(y:Int)]) rfl rfl rfl hS (.tail .head) (fun h2 _ hl=>Sl.mk (hl ahd _ (.head _)) rfl (Part.all [I y])) (by simp;omega) (by decide) rfl (fun v2 S2 hS2=>?_))
    obtain⟨s2,rfl⟩:=Sv.eta hS2
    refine Ops.NK (cs:= #[.slice s2.a s2.n s2.cap]) (fun afr=>?_) rfl
    refine oe rfl wn rfl rfl (iW (row:=ags) (l':=[s2]) rfl rfl rfl hN (.tail (.tail (.app (.app .head)))) (fun h2 _ hl=>Sl.mk (hl afr _ (.head _)) rfl (Part.all (ags s2))) (by simp;omega) (by decide) rfl (fun v3 N3 hN3=>?_))
    obtain⟨na3,nc3,rfl⟩:=hN3.dA
    refine agb rfl rfl rfl<|Ops.nil<|dI<|aA<|W.region rfl<|qm rfl rfl rfl ?_
    refine ag1 rfl ?_
    refine agb rfl rfl rfl<|pq ?_
    refine⟨rfl,(y+1,ns++[s2],na3,nc3,N3,C++S2),⟨hy1,hN3,by dsimp only;rw[agJ,←List.append_assoc];exact hC.snoc hS2⟩,by dsimp only;omega,⟨rfl,rfl,rfl,rfl,rfl,rfl,rfl,trivial⟩,?_⟩
    dsimp only
    show Sb _ ((afr,.cells #[.slice s2.a s2.n s2.cap] nS (0,0))::(ahd,.cells #[I y] dL (0,0))::_)
    refine⟨[(afr,.cells #[.slice s2.a s2.n s2.cap] nS (0,0)),(ahd,.cells #[I y] dL (0,0))],agQ fun y=>?_,.cons rfl (.cons rfl .nil)⟩
    simp only[List.count_append,List.count_cons,List.count_nil];omega
   ·refine W.exit<|bP<|bP<|gG<|dI<|aA<|W.region rfl<|qm rfl rfl rfl ?_
    refine ag1 rfl ?_
    refine agb rfl rfl rfl<|pq ?_
    obtain rfl:y=n:=by omega
    exact⟨rfl,(x+1,ns,na,nc,N,C),⟨hx1,hN,by dsimp only;rw[hss];exact hC⟩,by dsimp only;omega,⟨rfl,rfl,rfl,rfl,rfl,rfl,trivial⟩,.refl⟩
  ·refine W.exit<|bP<|bP<|gG<|aA<|W.region rfl<|qm rfl rfl rfl<|agb rfl rfl rfl<|Ops.nil<|dI ?_
   refine aA<|W.region rfl<|qm rfl rfl rfl ?_
   refine ag1 rfl ?_
   refine agb rfl rfl rfl<|pq ?_
   obtain rfl:x=us.length:=by omega
   exact⟨rfl,(i+1,ns,na,nc,N,C),⟨hi1,hN,by dsimp only;rw[hnx,←hul];exact hC⟩,by dsimp only;omega,⟨rfl,rfl,rfl,rfl,trivial⟩,.left .refl (hO.shut.app hB.shut)⟩
 ·refine W.exit<|bP<|bP<|gG<|aA<|W.seq<|W.region rfl<|qm rfl rfl rfl<|agb rfl rfl rfl<|Ops.nil ?_
  refine aA<|W.ret ?_
  obtain rfl:i=k:=by omega
  exact mg (vs:=[_]) ⟨O,us,B,hO,hB,.refl⟩
end Go.aS

/- Ways, as the laws make them. Conditions: none; over the given program. -/
namespace Go.aS
set_option maxRecDepth 100000
set_option maxHeartbeats 4000000
theorem agK{ps:List Pn}{q:Int}{p:Nat}{x:Pn}(h:ps[p]? =some x):P9 ps q p=(decide (x.lo≤q)&&decide (q≤x.hi)):=by
 unfold P9;rw[h];rfl
theorem UG.filter{α:Type}{row:α→List Value}{k:Nat}[Rw row k]{E:TypeId}{vs:List Sv}{ls:List (List α)}{A:ah}(h:UG E row vs ls A)(P:List α→Bool):∃B,UG E row (((vs.zip ls).filter fun x=>P x.2).map (·.1)) (ls.filter P) B∧Sb B A:=by
 induction h with
 | nil=>exact⟨[],.nil,.refl⟩
 | @cons s l A B vs ls h1 h2 ih=>
  obtain⟨C,h3,h4⟩:=ih
  rw[List.zip_cons_cons,List.filter_cons,List.filter_cons]
  cases hP:P l
  ·exact⟨C,by simpa[hP]using h3,h4.left h1.shut⟩
  ·exact⟨A++C,by simpa[hP]using UG.cons h1 h3,Sb.app .refl h4⟩
end Go.aS

/- Comparing truth values. Conditions: none; over any program. -/
namespace Go.aS
section
variable{x:Cx}{ρ:Env}{S:ah→Prop}{o:Oper}{v:Value}
end
end Go.aS

/- Shut blocks are put by. Conditions: none; over any program. -/
namespace Go.aS
theorem W.cut{x:Cx}{c c2:Code}{Q:Post}{ρ:Env}{ds:List Deferred}{F:ah}(L:Env)(G:ah)(H:W x c (fun e ρ' ds' F'=>e= .normal∧ds'=ds∧Sub L ρ'∧Sb G F') ρ ds F)(K:W x c2 Q L ds G):W x c (thn (fun ρ' ds' F'=>W x c2 Q ρ' ds' F') Q) ρ ds F:=
 W.mono H fun e ρ' ds' F' h=>by
  obtain⟨he,hd,hs,hb⟩:=h
  subst he hd
  exact aA (W.env hs (W.sb hb K))
theorem W.aiB{σ:Type}{x:Cx}{c c2:Code}{Q:Post}{ρ:Env}{ds:List Deferred}{F:ah}(ok:σ→Prop)(L:σ→Env)(G:σ→ah)(H:W x c (fun e ρ' ds' F'=>e= .normal∧ds'=ds∧∃s,ok s∧Sub (L s) ρ'∧Sb (G s) F') ρ ds F)(K:∀s,ok s→W x c2 Q (L s) ds (G s)):W x c (thn (fun ρ' ds' F'=>W x c2 Q ρ' ds' F') Q) ρ ds F:=
 W.mono H fun e ρ' ds' F' h=>by
  obtain⟨he,hd,s,ho,hs,hb⟩:=h
  subst he hd
  exact aA (W.env hs (W.sb hb (K s ho)))
end Go.aS

/- SyrupRing. Conditions: none; over the given program. -/
namespace Go.aS
set_option maxRecDepth 100000
set_option maxHeartbeats 4000000
end Go.aS

/- From where syrups go round for ever: the list. Conditions: none; over the given program. -/
namespace Go.aS
set_option maxRecDepth 100000
set_option maxHeartbeats 4000000
end Go.aS

/- The shortest way to treacle; what treacle comes of a syrup. Conditions: none; over the given program. -/
namespace Go.aS
set_option maxRecDepth 100000
set_option maxHeartbeats 4000000
end Go.aS

/- Treacle, as the document has it. Conditions: none; over the given program. -/
namespace Go.aS
set_option maxRecDepth 100000
set_option maxHeartbeats 4000000
end Go.aS

/- SyrupShortest. Conditions: none; over the given program. -/
namespace Go.aS
set_option maxRecDepth 100000
set_option maxHeartbeats 4000000
end Go.aS

/- Pans that are forced. Conditions: none; over the given program. -/
namespace Go.aS
set_option maxRecDepth 100000
set_option maxHeartbeats 4000000
end Go.aS

/- Pans that are shut; where one comes without them. Conditions: none; no program in sight. -/
namespace Go.aS
set_option linter.unusedVariables false
end Go.aS

/- Pans shut, as the document has it. Conditions: none; over the given program. -/
namespace Go.aS
set_option maxRecDepth 100000
set_option maxHeartbeats 4000000
end Go.aS

/- SyrupForced. Conditions: none; over the given program. -/
namespace Go.aS
set_option maxRecDepth 100000
set_option maxHeartbeats 4000000
end Go.aS

/- All ascending lists of so many numbers, as a program makes them. Conditions: none; no program in sight. -/
namespace Go.aS
set_option linter.unusedVariables false
set_option maxRecDepth 100000
end Go.aS

/- All ascending lists of so many numbers. Conditions: none; over the given program. -/
namespace Go.aS
set_option maxRecDepth 100000
set_option maxHeartbeats 4000000
theorem UG.os{α:Type}{row:α→List Value}{w:Nat}[Rw row w]{E:TypeId}{vs:List Sv}{ls:List (List α)}{A:ah}(h:UG E row vs ls A):∀{k:Nat} {s:Sv} {l:List α},vs[k]? =some s→ls[k]? =some l→∃B,Os E row s.val l B∧∀p∈B,p∈A:=by
 induction h with
 | nil=>intro k s l hs;simp at hs
 | cons h1 _ ih=>
  intro k s l hs hl
  rcases k with _ | k
  ·simp at hs hl;subst hs hl
   exact⟨_,h1,fun p hp=>List.mem_append_left _ hp⟩
  ·simp at hs hl
   obtain⟨B,h2,h3⟩:=ih hs hl
   exact⟨B,h2,fun p hp=>List.mem_append_right _ (h3 p hp)⟩
end Go.aS

/- SyrupClosed. Conditions: none; over the given program. -/
namespace Go.aS
set_option maxRecDepth 100000
set_option maxHeartbeats 4000000
end Go.aS

/- SyrupMore. Conditions: none; over the given program. -/
namespace Go.aS
set_option maxRecDepth 100000
set_option maxHeartbeats 4000000
end Go.aS

/- Pans that are checked, and which of them take a syrup, as the document has it and as the program has it. Conditions: none; over the given program. -/
namespace Go.aS
set_option maxRecDepth 100000
set_option maxHeartbeats 4000000
end Go.aS

/- Ways made of numbers. Conditions: none; over the given program. -/
namespace Go.aS
set_option maxRecDepth 100000
set_option maxHeartbeats 4000000
end Go.aS

/- A way gone along: where it leads, what comes out, what stops it. Conditions: none; no program in sight. -/
namespace Go.aS
set_option linter.unusedVariables false
end Go.aS

/- SyrupBoiled. Conditions: none; over the given program. -/
namespace Go.aS
set_option maxRecDepth 100000
set_option maxHeartbeats 4000000
theorem Os.room{α:Type}{row:α→List Value}{w:Nat}[Rw row w]{E:TypeId}{a:Option Addr}{n cap:Nat}{l:List α}{A:ah}(H:Os E row (.slice a n cap) l A):(a.map (·.spot)=some none∨a=none)∧l.length≤cap:=by
 rcases H with⟨rfl,e,-⟩ | ⟨β,c,cap',J,e,-,-,h,-,-⟩
 ·cases e;exact⟨.inr rfl,Nat.le_refl _⟩
 ·cases e;exact⟨.inl rfl,h⟩
end Go.aS

/- All upside down. Conditions: none; no program in sight. -/
namespace Go.aS
set_option linter.unusedVariables false
end Go.aS

/- SyrupMirror. Conditions: none; over the given program. -/
namespace Go.aS
set_option maxRecDepth 100000
set_option maxHeartbeats 4000000
end Go.aS

/- What all the best shares say of a lot. Conditions: none; over the given program. -/
namespace Go.aS
set_option maxRecDepth 100000
set_option maxHeartbeats 4000000
def amJ(l:List (List Int))(k:Nat):Nat:=(l.filter fun s=>decide (0≤(kC s).getD k 0)).length
def al7(c n:Nat):Int:=if 0<c∧c<n then 3 else if c=0 then 2 else 1
def amz(ps:List Pn)(ls:List Lt)(rs:List Int)(k:Int):Int×Int:=
 if ji ps ls rs≠0 then(0,ji ps ls rs)else if outs k 0 ((ls.length:Int)-1)then(0,3)else(al7 (amJ (oZ ps ls rs).2 k.toNat) (oZ ps ls rs).2.length,0)
theorem amL{l:List (List Int)}{k i:Nat}{s:List Int}(h:l[i]? =some s):amJ (l.take (i+1)) k=amJ (l.take i) k+if 0≤(kC s).getD k 0 then 1 else 0:=by
 rw[amJ,List.take_add_one,h,List.filter_append,List.length_append]
 congr 1
 by_cases hs:0≤(kC s).getD k 0
 ·rw[if_pos hs]
  show([s].filter fun s=>decide (0≤(kC s).getD k 0)).length=1
  rw[List.filter_cons,if_pos (decide_eq_true hs)];rfl
 ·rw[if_neg hs]
  show([s].filter fun s=>decide (0≤(kC s).getD k 0)).length=0
  rw[List.filter_cons,if_neg (by simpa using hs)];rfl
theorem am2{l:List (List Int)}{k:Nat}:amJ l k≤l.length:=List.length_filter_le ..
theorem ank{ps:List Pn}{ls:List Lt}{rs:List Int}(h:ls.length≤4):(oZ ps ls rs).2.length≤625:=by
 have:=(MC (f:=Ba ls) (xs:=yS ps ls rs) (k:=(yS ps ls rs).length) (Nat.le_refl _)).1
 rw[List.take_length]at this
 exact Nat.le_trans this (aax h)
theorem amZ(main:Side)(h:Hp)(ps:List Pn)(ls:List Lt)(rs:List Int)(k:Int)(vp vl vr:Value)(hp:Sl h Pn.row vp ps)(hl:Sl h Lt.row vl ls)(hr:Sl h fH vr rs):Pu prog main amb #[vp,vl,vr,I k] h (.tuple #[I (amz ps ls rs k).1,I (amz ps ls rs k).2]):=by
 obtain⟨a,cap,rfl⟩:=hp.dA
 obtain⟨a2,cap2,rfl⟩:=hl.dA
 obtain⟨a3,cap3,rfl⟩:=hr.dA
 refine dV.aG amr rfl (by show 4≤68;decide) [(0,.slice a ps.length cap),(1,.slice a2 ls.length cap2),(2,.slice a3 rs.length cap3),(3,I k)] ⟨rfl,rfl,rfl,rfl,trivial⟩ ?_
 refine W.seq<|W.region rfl<|agb rfl rfl rfl<|agb rfl rfl rfl<|pq<|W.seq<|W.region rfl<|qm rfl rfl rfl<|qm rfl rfl rfl ?_
 refine qm rfl rfl rfl ?_
 refine c0 (fun h' hE hL=>VD _ h' ps ls rs _ _ _ (hp.ext hE) (hl.ext hE) (hr.ext hE)) (fun v A' hv=>?_)
 have hv2:∃pv,v= .tuple #[pv,I (ji ps ls rs)]∧(ji ps ls rs≠0→Shut A')∧(ji ps ls rs=0→∃bl R vm,pv=bI bl∧Os dL fH vm rs R∧Sb ((bl,.cells #[.slice a ps.length cap,U8 0,.slice a2 ls.length cap2,vm] xE (0,0))::R) A'):=by
  rcases hv with⟨h1,rfl,h2⟩ | ⟨h1,bl,R,vm,rfl,hR,hsb⟩
  ·exact⟨_,rfl,fun _=>h2,fun h=>absurd h h1⟩
  ·exact⟨_,by rw[h1],fun h=>absurd h1 h,fun _=>⟨bl,R,vm,rfl,hR,hsb⟩⟩
 obtain⟨pv,rfl,hv3,hv4⟩:=hv2
 clear hv
 refine qm rfl rfl rfl<|oq (bD rfl rfl rfl) rfl wn rfl rfl<|oq (bD rfl rfl rfl) rfl wn rfl rfl<|agb rfl rfl rfl<|agb rfl rfl rfl<|pq<|W.seq<|W.seq<|W.region rfl ?_
 refine qm rfl rfl rfl ?_
 refine agW (nG rfl rfl rfl) rfl ?_
 refine pq ?_
 refine W.bC rfl (fun c25=>?_) (fun c25=>?_)
 ·refine W.seq<|W.region rfl<|qm rfl rfl rfl<|agb rfl rfl rfl<|agb rfl rfl rfl<|pq<|W.ret<|aY ?_
  refine uZ ?_ (hs:=by simpa using hv3 c25)
  rw[amz,if_pos c25];rfl
 ·have h0:ji ps ls rs=0:=by simpa using c25
  obtain⟨hok,hlo,hro⟩:=aaA h0
  obtain⟨bl,R,vm,rfl,hR,hsb⟩:=hv4 h0
  obtain⟨o,hrm,Oh⟩:=aau hR
  rw[hro.len]at hrm
  have hl4:=hlo.len
  refine W.sb (F':=(bl,.cells #[.slice a ps.length cap,U8 0,.slice a2 ls.length cap2,vm] xE (0,0))::Iu o rs) (by simpa using(Sb.cons Oh).trans hsb) ?_
  have hrS:Shut (Iu o rs):=by unfold Iu;split;exact .nil;exact .cons rfl .nil
  refine W.skip<|aA<|W.seq<|W.seq<|W.region rfl<|qm rfl rfl rfl<|qm rfl rfl rfl ?_
  refine agW (dM rfl rfl) rfl ?_
  refine ag5 rfl ?_
  refine cp (fun h' hE hL=>jo _ h' _ _ _) ?_
  refine pq ?_
  refine W.bC rfl (fun c31=>?_) (fun c31=>?_)
  ·refine W.seq<|W.region rfl<|agb rfl rfl rfl<|agb rfl rfl rfl<|pq<|W.ret<|aY ?_
   refine uZ ?_ (hs:=.cons rfl hrS)
   rw[amz,if_neg (by simpa using h0),if_pos (by assumption)];rfl
  ·have hk0:0≤k∧k<ls.length:=by
    have:¬outs k 0 ((ls.length:Int)-1):=by assumption
    unfold outs at this;omega
   obtain⟨k,rfl⟩:∃n:Nat,k=n:=⟨k.toNat,by omega⟩
   have hk4:k<4:=by omega
   refine W.skip<|aA<|W.seq<|W.region rfl<|qm rfl rfl rfl ?_
   refine cg (.tail .all) (fun h' hE hL=>aaz _ h' ps ls rs _ _ vm o bl _ _ hok hlo hro hrm (hp.ext hE) (hl.ext hE) (hL bl _ (.head _))) (fun v A1 hv=>?_)
   obtain⟨u,S,rfl,hO,afy⟩:=hv
   rw[YG]at hO⊢
   simp only at hO
   have aot:=ank (ps:=ps) (rs:=rs) hl4
   have hbm:∀s∈(oZ ps ls rs).2,s.length=ls.length:=fun s hs=>Az (SN hs)
   have hbne:=VN (ps:=ps) (ls:=ls) (rs:=rs)
   have e:amz ps ls rs k=(al7 (amJ (oZ ps ls rs).2 k) (oZ ps ls rs).2.length,0):=by
    rw[amz,if_neg (by simpa using h0),if_neg (by unfold outs;omega),Int.toNat_natCast]
   rw[e]
   generalize oZ ps ls rs=B at*
   obtain⟨w,L⟩:=B
   dsimp only at hO aot hbm hbne
   rcases hO with⟨h9,-⟩ | ⟨βu,c,cp,Ju,rfl,rfl,hc1,hc2,hpt,hJu⟩
   ·exact absurd (List.map_eq_nil_iff.1 h9) hbne
   rw[List.length_map]at hc2⊢
   refine Ops.sb (F':=(βu,.cells c dw (0,0))::[]) (.skip rfl (Sb.trans (.cons (.nil (hJu.app hrS))) afy)) ?_
   refine Ops.new (fun Yf=>?_)
   refine Ops.jP (vs:= #[I w,.slice (some ⟨βu,0,none⟩) L.length cp]) ?_
   refine pq<|W.seq<|W.region rfl<|agb rfl rfl rfl<|pq<|W.seq<|W.seq<|W.region rfl ?_
   refine agY rfl ?_
   refine agX rfl ?_
   refine agW (dM rfl rfl) rfl ?_
   refine qm rfl rfl rfl<|pq<|W.block ?_
   refine W.loop (σ:=Nat) (fun i=>i≤L.length) (fun i=>[(37,I i),(36,I L.length),(35,.slice (some ⟨βu,0,none⟩) L.length cp),(13,I (amJ (L.take i) k)),(12,.pointer (some ⟨Yf,0,none⟩)),(3,I k)])
    (fun _=>[(Yf,.cells #[I w,.slice (some ⟨βu,0,none⟩) L.length cp] iJ (0,0)),(βu,.cells c dw (0,0))]) (fun i=>L.length-i) 0 (Nat.zero_le _) ⟨rfl,rfl,rfl,rfl,rfl,rfl,trivial⟩ .refl ?_
   rintro i hi
   refine W.seq<|W.region rfl ?_
   refine agW (fO rfl rfl rfl) rfl ?_
   refine pq<|W.seq ?_
   refine W.bC rfl (fun c38=>?_) (fun c38=>?_)
   ·have hil:i<L.length:=by omega
    obtain⟨s,hs,-⟩:=has hil
    have hs4:(kC s).length=4:=Qw (by rw[hbm s (List.mem_of_getElem? hs)];omega)
    have hrow:=hpt.abd (i:=i) (p:=kC s) (by rw[List.getElem?_map,hs];rfl)
    have hex:c.extract (0+i*4) (0+i*4+4)=uV (kC s):=by rw[←Qz hs4];exact hrow.1
    have apQ:0+i*4+4≤c.size:=hrow.2
    have hcl:amJ (L.take i) k≤625:=Nat.le_trans am2 (by rw[List.length_take];omega)
    have hon:ones (uV (kC s)).toList=true:=Qv
    have hsz:(uV (kC s)).size=4:=by rw[qj,hs4]
    have hat:(uV (kC s))[0+k*1]? =some (I ((kC s).getD k 0)):=by
     refine ab4 ?_
     rw[List.getD_eq_getElem?_getD,List.getElem?_eq_getElem (by omega)];rfl
    refine W.skip<|aA<|W.seq<|W.block<|W.seq<|W.region rfl ?_
    refine ag3 rfl ?_
    refine ag2 rfl ?_
    refine Ops.new (fun apR=>?_)
    refine Ops.jP (vs:=uV (kC s)) ?_
    refine pq<|W.seq<|W.region rfl<|qm rfl rfl rfl ?_
    first | refine agW (UN rfl rfl rfl) rfl ?_ | refine agW (Qg rfl rfl rfl) rfl ?_
    refine agX rfl ?_
    refine agW (IJ rfl rfl rfl) rfl ?_
    refine pq ?_
    refine W.bC rfl (fun c44=>?_) (fun c44=>?_)
    ·refine W.region rfl<|qm rfl rfl rfl ?_
     refine ag1 rfl ?_
     refine agb rfl rfl rfl<|Ops.nil<|dI<|aA<|W.region rfl ?_
     refine ag1 rfl ?_
     refine qm rfl rfl rfl<|pq ?_
     refine⟨rfl,i+1,hil,by omega,⟨rfl,rfl,rfl,lk rfl (show I _=I _ by rw[amL hs,if_pos (by assumption)];rfl),rfl,rfl,trivial⟩,.skip rfl .refl⟩
    ·refine W.skip<|dI<|aA<|W.region rfl ?_
     refine ag1 rfl ?_
     refine qm rfl rfl rfl<|pq ?_
     refine⟨rfl,i+1,hil,by omega,⟨rfl,rfl,rfl,lk rfl (show I _=I _ by rw[amL hs,if_neg (by assumption),Nat.add_zero]),rfl,rfl,trivial⟩,.skip rfl .refl⟩
   ·obtain rfl:i=L.length:=by omega
    rw[List.take_length]
    have hcL:=am2 (l:=L) (k:=k)
    refine W.exit<|bP<|bP<|gG<|aA<|W.seq<|W.region rfl<|agb rfl rfl rfl<|pq ?_
    refine W.seq<|W.block<|W.seq<|W.block<|W.seq<|W.block<|W.seq<|W.block<|W.seq<|W.seq ?_
    refine W.seq<|W.region rfl<|qm rfl rfl rfl ?_
    refine agW (rC rfl rfl rfl) rfl ?_
    refine qm rfl rfl rfl ?_
    refine Ops.ask (fun aou=>?_) (fun aou=>?_)
    ·refine oq (aN rfl rfl) rfl (ak rfl rfl rfl) rfl rfl ?_
     refine oq (ay rfl rfl) rfl (ak rfl rfl rfl) rfl rfl ?_
     refine oq (iQ rfl rfl) rfl (ak rfl rfl rfl) rfl rfl ?_
     refine oq (dM rfl rfl) rfl (ak rfl rfl rfl) rfl rfl ?_
     refine oq (fO rfl rfl rfl) rfl (ak rfl rfl rfl) rfl rfl ?_
     refine agW (dG rfl rfl rfl) rfl ?_
     refine agb rfl rfl rfl<|pq ?_
     refine W.bC rfl (fun c48=>?_) (fun c48=>?_)
     ·refine W.exit<|bP<|bP<|gG<|aA<|W.region rfl<|qm rfl rfl rfl ?_
      refine ag1 rfl ?_
      refine agb rfl rfl rfl<|Ops.nil<|dI<|aA<|W.region rfl<|qm rfl rfl rfl ?_
      refine ag1 rfl ?_
      refine agb rfl rfl rfl<|Ops.nil<|dI<|aA<|W.seq<|W.region rfl<|qm rfl rfl rfl ?_
      refine ag1 rfl ?_
      refine agb rfl rfl rfl<|pq<|W.exit<|gG<|aA<|W.seq<|W.region rfl<|qm rfl rfl rfl<|agb rfl rfl rfl ?_
      refine agb rfl rfl rfl<|pq<|W.ret ?_
      refine uZ ?_ (hs:=.cons rfl (.cons rfl .nil))
      rw[al7]
      dsimp only
      first
      | (rw[if_pos (by omega)];rfl)
      | (rw[if_neg (by omega),if_pos (by omega)];rfl)
      | (rw[if_neg (by omega),if_neg (by omega)];rfl)
     ·refine W.skip<|aA<|W.seq<|W.region rfl<|qm rfl rfl rfl ?_
      refine agW (nD rfl rfl rfl) rfl ?_
      refine agb rfl rfl rfl<|pq ?_
      refine W.bC rfl (fun c58=>?_) (fun c58=>?_)
      ·refine W.exit<|bP<|Tt<|bP<|gG<|aA<|W.region rfl<|qm rfl rfl rfl ?_
       refine ag1 rfl ?_
       refine agb rfl rfl rfl<|Ops.nil<|dI<|aA<|W.seq<|W.region rfl<|qm rfl rfl rfl ?_
       refine ag1 rfl ?_
       refine agb rfl rfl rfl<|pq<|W.exit<|gG<|aA<|W.seq<|W.region rfl<|qm rfl rfl rfl<|agb rfl rfl rfl ?_
       refine agb rfl rfl rfl<|pq<|W.ret ?_
       refine uZ ?_ (hs:=.cons rfl (.cons rfl .nil))
       rw[al7]
       dsimp only
       first
       | (rw[if_pos (by omega)];rfl)
       | (rw[if_neg (by omega),if_pos (by omega)];rfl)
       | (rw[if_neg (by omega),if_neg (by omega)];rfl)
      ·refine W.skip<|aA<|W.exit<|Tt<|bP<|Tt<|bP<|gG<|aA<|W.seq ?_
       refine W.region rfl<|qm rfl rfl rfl ?_
       refine ag1 rfl ?_
       refine agb rfl rfl rfl<|pq<|W.exit<|gG<|aA<|W.seq<|W.region rfl<|qm rfl rfl rfl<|agb rfl rfl rfl ?_
       refine agb rfl rfl rfl<|pq<|W.ret ?_
       refine uZ ?_ (hs:=.cons rfl (.cons rfl .nil))
       rw[al7]
       dsimp only
       first
       | (rw[if_pos (by omega)];rfl)
       | (rw[if_neg (by omega),if_pos (by omega)];rfl)
       | (rw[if_neg (by omega),if_neg (by omega)];rfl)
    ·refine Ops.no ?_
     refine Ops.no ?_
     refine Ops.no ?_
     refine Ops.no ?_
     refine Ops.no ?_
     refine agW (iH rfl rfl rfl) rfl ?_
     refine agb rfl rfl rfl<|pq ?_
     refine W.bZ ?_
     refine W.skip<|aA<|W.seq<|W.region rfl<|qm rfl rfl rfl ?_
     refine agW (nD rfl rfl rfl) rfl ?_
     refine agb rfl rfl rfl<|pq ?_
     refine W.bC rfl (fun c58=>?_) (fun c58=>?_)
     ·refine W.exit<|bP<|Tt<|bP<|gG<|aA<|W.region rfl<|qm rfl rfl rfl ?_
      refine ag1 rfl ?_
      refine agb rfl rfl rfl<|Ops.nil<|dI<|aA<|W.seq<|W.region rfl<|qm rfl rfl rfl ?_
      refine ag1 rfl ?_
      refine agb rfl rfl rfl<|pq<|W.exit<|gG<|aA<|W.seq<|W.region rfl<|qm rfl rfl rfl<|agb rfl rfl rfl ?_
      refine agb rfl rfl rfl<|pq<|W.ret ?_
      refine uZ ?_ (hs:=.cons rfl (.cons rfl .nil))
      rw[al7]
      dsimp only
      first
      | (rw[if_pos (by omega)];rfl)
      | (rw[if_neg (by omega),if_pos (by omega)];rfl)
      | (rw[if_neg (by omega),if_neg (by omega)];rfl)
     ·refine W.skip<|aA<|W.exit<|Tt<|bP<|Tt<|bP<|gG<|aA<|W.seq ?_
      refine W.region rfl<|qm rfl rfl rfl ?_
      refine ag1 rfl ?_
      refine agb rfl rfl rfl<|pq<|W.exit<|gG<|aA<|W.seq<|W.region rfl<|qm rfl rfl rfl<|agb rfl rfl rfl ?_
      refine agb rfl rfl rfl<|pq<|W.ret ?_
      refine uZ ?_ (hs:=.cons rfl (.cons rfl .nil))
      rw[al7]
      dsimp only
      first
      | (rw[if_pos (by omega)];rfl)
      | (rw[if_neg (by omega),if_pos (by omega)];rfl)
      | (rw[if_neg (by omega),if_neg (by omega)];rfl)
end Go.aS

/- All lists of pans, and the shares among them. Conditions: none; no program in sight. -/
namespace Go.aS
set_option linter.unusedVariables false
theorem amM{m:Nat}:∀{k:Nat},af7 m (k+1)=(List.range m).flatMap fun y=>(af7 m k).map (y:: ·)
 | 0=>by
  show([[]]:List (List Nat)).flatMap _=_
  simp only[af7,List.flatMap_cons,List.flatMap_nil,List.append_nil,List.nil_append,List.map_cons,List.map_nil]
  rw[←List.map_eq_flatMap]
 | k+1=>by
  show(af7 m (k+1)).flatMap (fun l=>(List.range m).map fun y=>l++[y])=(List.range m).flatMap fun y=>((af7 m k).flatMap fun l=>(List.range m).map fun y=>l++[y]).map (y:: ·)
  rw[amM,List.flatMap_assoc]
  refine congrArg (fun f=>List.flatMap f _) (funext fun y=>?_)
  rw[List.flatMap_map,List.map_flatMap]
  refine congrArg (fun f=>List.flatMap f _) (funext fun l=>?_)
  rw[List.map_map];rfl
def al9(m k:Nat):List (List Int):=(aff m k).map fun g=>g.map (· - 1)
theorem ana{m:Nat}:al9 m 0=[[]]:=rfl
theorem amN{m k:Nat}:al9 (m+1) (k+1)=(al9 (m+1) k).map ((-1:Int):: ·)++(List.range m).flatMap fun(p:Nat)=>(al9 (m+1) k).map ((p:Int):: ·):=by
 rw[al9,afL,amM,List.range_succ_eq_map,List.flatMap_cons,List.map_append,List.map_append,List.flatMap_map,List.map_flatMap,List.map_flatMap]
 congr 1
 ·rw[al9,afL,List.map_map,List.map_map,List.map_map,List.map_map]
  exact List.map_congr_left fun v _=>by simp[zs]
 ·refine congrArg (fun f=>List.flatMap f _) (funext fun p=>?_)
  rw[al9,afL,List.map_map,List.map_map,List.map_map,List.map_map]
  refine List.map_congr_left fun v _=>?_
  simp only[Function.comp,zs,List.map_cons,List.cons.injEq,and_true]
  omega
def alZ(ps:List Pn):List Lt→List Int→List Int→Bool
 | l::ls,rs,a::x=>if a<0 then alZ ps ls rs x else(fits l rs a.toNat&&P9 ps l.qu a.toNat)&&alZ ps ls (less l rs a.toNat) x
 | _,_,_=>true
theorem anb{ps:List Pn}{q:Int}(h4:ps.length≤4)(hq:0≤q):bQ ps 0 q.toNat=(List.range ps.length).filter fun i=>P9 ps q i:=by
 have e:List.range 4=List.range ps.length++(List.range (4-ps.length)).map (ps.length+ ·):=by
  rw[←List.range_add];congr 1;omega
 have hn:((q.toNat:Nat):Int)=q:=Int.toNat_of_nonneg hq
 rw[bQ,e,List.filter_append,hn]
 have h1:((List.range (4-ps.length)).map (ps.length+ ·)).filter (fun i=>P9 ps q i&& !(0:Nat).testBit i)=[]:=by
  refine List.filter_eq_nil_iff.2 fun i hi=>?_
  obtain⟨j,-,rfl⟩:=List.mem_map.1 hi
  unfold P9
  rw[List.getElem?_eq_none (by omega)];simp
 rw[h1,List.append_nil]
 exact List.filter_congr fun i _=>by simp
theorem amQ{ps:List Pn}(h4:ps.length≤4):∀{ls:List Lt} {rs pre:List Int},(∀l∈ls,0≤l.qu)→Dv ps ls rs pre=((al9 (ps.length+1) ls.length).filter (alZ ps ls rs)).map (pre++ ·)
 | [],rs,pre,_=>by
  rw[Dv,List.length_nil,ana];simp[alZ]
 | l::ls,rs,pre,hq=>by
  have hq':∀l∈ls,0≤l.qu:=fun x hx=>hq x (List.mem_cons_of_mem _ hx)
  rw[Dv,List.length_cons,amN,List.filter_append,List.map_append,List.filter_map,List.map_map,amQ h4 hq',anb h4 (hq l (List.mem_cons_self ..))]
  congr 1
  ·rw[show(alZ ps (l::ls) rs∘((-1:Int):: ·))=alZ ps ls rs from funext fun x=>by simp[alZ]]
   exact List.map_congr_left fun x _=>by simp
  ·rw[List.filter_flatMap,List.map_flatMap]
   generalize List.range ps.length=R
   induction R with
   | nil=>rfl
   | cons p R ih=>
    rw[List.flatMap_cons,←ih,List.filter_cons]
    have e:((al9 (ps.length+1) ls.length).map ((p:Int):: ·)).filter (alZ ps (l::ls) rs)=if fits l rs p&&P9 ps l.qu p then((al9 (ps.length+1) ls.length).filter (alZ ps ls (less l rs p))).map ((p:Int):: ·)else[]:=by
     rw[List.filter_map]
     have e2:(alZ ps (l::ls) rs∘((p:Int):: ·))=fun x=>(fits l rs p&&P9 ps l.qu p)&&alZ ps ls (less l rs p) x:=funext fun x=>by
      show alZ ps (l::ls) rs ((p:Int)::x)=_
      rw[alZ,if_neg (by omega),Int.toNat_natCast]
     rw[e2]
     cases hft:fits l rs p&&P9 ps l.qu p
     ·simp
     ·simp
    rw[e]
    cases ht:P9 ps l.qu p
    ·simp[ht]
    ·cases hf:fits l rs p
     ·simp[ht,hf]
     ·simp only[ht,hf,if_true,Bool.and_self,List.flatMap_cons,if_true]
      rw[amQ h4 hq',List.map_map]
      congr 1
      exact List.map_congr_left fun x _=>by simp
theorem amV{ps:List Pn}{ls:List Lt}{rs:List Int}(h4:ps.length≤4)(hq:∀l∈ls,0≤l.qu):yS ps ls rs=(al9 (ps.length+1) ls.length).filter (alZ ps ls rs):=by
 rw[yS,amQ h4 hq]
 exact(List.map_congr_left fun x _=>List.nil_append x).trans (List.map_id _)
end Go.aS

/- SyrupShared. Conditions: none; over the given program. -/
namespace Go.aS
set_option maxRecDepth 100000
set_option maxHeartbeats 4000000
def pdF(ps:List Pn)(ls:List Lt)(rs:List Int)(x:List Int)(acc:Int):Int:=if alZ ps ls rs x then acc+Ba ls x else -1
theorem an6{ps:List Pn}{l:Lt}{ls:List Lt}{rs x:List Int}{a acc:Int}(h:a<0):pdF ps (l::ls) rs (a::x) acc=pdF ps ls rs x acc:=by
 have e1:alZ ps (l::ls) rs (a::x)=alZ ps ls rs x:=by rw[alZ,if_pos h]
 have e2:Ba (l::ls) (a::x)=Ba ls x:=by rw[Ba,if_neg (by omega),Int.zero_add]
 rw[pdF,pdF,e1,e2]
theorem anx{ps:List Pn}{l:Lt}{ls:List Lt}{rs x:List Int}{p:Nat}{acc:Int}(h:(fits l rs p&&P9 ps l.qu p)=true):pdF ps (l::ls) rs ((p:Int)::x) acc=pdF ps ls (less l rs p) x (acc+l.po):=by
 have e1:alZ ps (l::ls) rs ((p:Int)::x)=alZ ps ls (less l rs p) x:=by rw[alZ,if_neg (by omega),Int.toNat_natCast,h,Bool.true_and]
 have e2:Ba (l::ls) ((p:Int)::x)=l.po+Ba ls x:=by rw[Ba,if_pos (by omega)]
 rw[pdF,pdF,e1,e2,Int.add_assoc]
theorem amR{ps:List Pn}{l:Lt}{ls:List Lt}{rs x:List Int}{p:Nat}{acc:Int}(h:(fits l rs p&&P9 ps l.qu p)=false):pdF ps (l::ls) rs ((p:Int)::x) acc= -1:=by
 have e1:alZ ps (l::ls) rs ((p:Int)::x)=false:=by rw[alZ,if_neg (by omega),Int.toNat_natCast,h,Bool.false_and]
 rw[pdF,e1];rfl
theorem am0(main:Side)(h:Hp)(ps:List Pn)(ls:List Lt)(rs x:List Int)(vp vl vr vx:Value)(hok:iP ps)(hlo:Au ls)(hro:Aw ps.length rs)(hxl:x.length=ls.length)(hxa:∀a∈x,-1≤a∧a<ps.length)(hp:Sl h Pn.row vp ps)(hl:Sl h Lt.row vl ls)(hr:Sl h fH vr rs)(hx:Sl h fH vx x):Pu prog main aml #[vp,vl,vr,vx] h (I (pdF ps ls rs x 0)):=by
 obtain⟨a,cap,rfl⟩:=hp.dA
 obtain⟨a2,cap2,rfl⟩:=hl.dA
 obtain⟨a3,cap3,rfl⟩:=hr.dA
 obtain⟨a4,cap4,rfl⟩:=hx.dA
 have hl4:=hlo.len
 have Du:=hok.len
 refine dV.aG amI rfl (by show 4≤79;decide) [(0,.slice a ps.length cap),(1,.slice a2 ls.length cap2),(2,.slice a3 rs.length cap3),(3,.slice a4 x.length cap4)] ⟨rfl,rfl,rfl,rfl,trivial⟩ ?_
 refine W.seq<|W.region rfl<|agb rfl rfl rfl<|pq<|W.seq<|W.region rfl<|agb rfl rfl rfl<|pq ?_
 refine W.seq<|W.region rfl<|qm rfl rfl rfl ?_
 refine c0 (fun h' hE hL=>af0 _ h' rs _ (hr.ext hE) (by rw[hro.len];omega)) (fun v A' hv=>?_)
 obtain⟨S,hS,hsb⟩:=hv
 obtain⟨o,hrm,Oh⟩:=aau hS
 rw[hro.len]at hrm
 refine Ops.sb (F':=Iu o rs) (by rw[List.append_nil];exact Oh.trans hsb) ?_
 refine agb rfl rfl rfl<|pq<|W.seq<|W.seq<|W.region rfl<|agb rfl rfl rfl<|pq<|W.block ?_
 refine W.loop (σ:=Nat×Int×List Int) (fun t=>t.1≤ls.length∧t.2.2.length=ps.length∧(∀r∈t.2.2,0≤r∧r≤20)∧(0≤t.2.1∧t.2.1≤9*t.1)∧pdF ps ls rs x 0=pdF ps (ls.drop t.1) t.2.2 (x.drop t.1) t.2.1) (fun t=>[(11,I t.1),(10,v),(9,I t.2.1),(0,.slice a ps.length cap),(1,.slice a2 ls.length cap2),(3,.slice a4 x.length cap4)]) (fun t=>Iu o t.2.2) (fun t=>ls.length-t.1) (0,0,rs) ⟨Nat.zero_le _,hro.len,hro.room,⟨Int.le_refl _,by dsimp only;omega⟩,rfl⟩ ⟨rfl,rfl,rfl,rfl,rfl,rfl,trivial⟩ .refl ?_
 rintro⟨i,acc,left⟩ ⟨hi,hll,hlr,⟨ha0,ha9⟩,hpd⟩
 dsimp only at*
 refine W.seq<|W.seq<|W.region rfl<|qm rfl rfl rfl<|qm rfl rfl rfl ?_
 refine agW (dM rfl rfl) rfl ?_
 refine agW (fO rfl rfl rfl) rfl ?_
 refine pq ?_
 refine W.bC rfl (fun c18=>?_) (fun c18=>?_)
 ·have hil:i<ls.length:=by omega
  obtain⟨l,hlt,hdr⟩:=has hil
  obtain⟨xa,hxt,hdx⟩:=has (show i<x.length by omega)
  rw[hdr,hdx]at hpd
  have hlk:=hlo.lot l (List.mem_of_getElem? hlt)
  have hxk:=hxa xa (List.mem_of_getElem? hxt)
  obtain⟨b1,o1',c1,E1,f1,hv1,hb1,-,-,hz1⟩:=hx.at hxt
  cases hv1
  have hc1:c1[o1'+i*1]? =some (I xa):=hz1 0 (by decide)
  have hix:i<x.length:=by omega
  refine W.skip<|aA<|W.seq<|W.block<|W.seq<|W.region rfl<|qm rfl rfl rfl<|qm rfl rfl rfl ?_
  refine ag3 rfl ?_
  refine agX rfl ?_
  refine agb rfl rfl rfl<|pq<|W.seq<|W.seq<|W.region rfl<|qm rfl rfl rfl ?_
  refine agW (fO rfl rfl rfl) rfl ?_
  refine pq ?_
  refine W.bC rfl (fun c26=>?_) (fun c26=>?_)
  ·refine W.exit<|bP<|gG<|aA<|W.region rfl<|qm rfl rfl rfl ?_
   refine ag1 rfl ?_
   refine agb rfl rfl rfl<|pq ?_
   exact⟨rfl,(i+1,acc,left),⟨hil,hll,hlr,⟨ha0,by dsimp only;omega⟩,by dsimp only;rw[hpd,an6 (by omega)]⟩,by dsimp only;omega,⟨rfl,rfl,rfl,rfl,rfl,rfl,trivial⟩,.refl⟩
  ·obtain⟨p,rfl⟩:∃n:Nat,xa=n:=⟨xa.toNat,by omega⟩
   have hpl:p<ps.length:=by omega
   obtain⟨y,rfl⟩:∃y,o=some y:=by
    cases o with
    | none=>have:=hrm.1;omega
    | some y=>exact⟨y,rfl⟩
   obtain⟨βr,tl⟩:=y
   obtain⟨cap5,rfl⟩:=hrm
   obtain⟨pn,hpn,-⟩:=has hpl
   have hpk:=hok.pan pn (List.mem_of_getElem? hpn)
   have hr0:=YC (tl:=tl) (rs:=left) (p:=p) (by omega)
   have hsz:=Uy (tl:=tl) (rs:=left) (p:=p) (by omega)
   have hrb:0≤left.getD p 0∧left.getD p 0≤20:=by
    rw[List.getD_eq_getElem?_getD,List.getElem?_eq_getElem (by omega)]
    exact hlr _ (List.getElem_mem _)
   obtain⟨b2,o2',c2,E2,f2,hv2,hb2,-,-,hz2⟩:=hl.at hlt
   cases hv2
   have hq2:c2[o2'+i*2+0]? =some (I l.qu):=hz2 0 (by decide)
   have hp2:c2[o2'+i*2+1]? =some (I l.po):=hz2 1 (by decide)
   obtain⟨b3,o3',c3,E3,f3,hv3,hb3,-,-,hz3⟩:=hp.at hpn
   cases hv3
   have hq3:c3[o3'+p*3+0]? =some (I pn.lo):=hz3 0 (by decide)
   have hp3:c3[o3'+p*3+1]? =some (I pn.hi):=hz3 1 (by decide)
   have ht:=agK (q:=l.qu) hpn
   refine W.sb (F':=[(βr,QK tl left)]) .refl ?_
   refine W.skip<|aA<|W.seq ?_
   refine W.rE (n:=14) rfl ?_
   refine xq 0 (aN rfl rfl) rfl ?_
   refine xq 1 (aN rfl rfl) rfl ?_
   refine xq 2 (aN rfl rfl) rfl ?_
   refine xq 3 (aN rfl rfl) rfl ?_
   first | refine xq 4 (G_ rfl rfl rfl) rfl ?_ | refine xq 4 (o_ rfl rfl rfl) rfl ?_
   refine xq 5 (iQ rfl rfl) rfl ?_
   refine xq 6 (aN rfl rfl) rfl ?_
   refine xq 7 (aN rfl rfl) rfl ?_
   first | refine xq 8 (G_ rfl rfl rfl) rfl ?_ | refine xq 8 (o_ rfl rfl rfl) rfl ?_
   refine xq 9 (ay rfl rfl) rfl ?_
   refine xq 10 (iQ rfl rfl) rfl ?_
   first | refine xq 11 (acL rfl rfl rfl) rfl ?_ | refine xq 11 (M_ rfl rfl rfl) rfl ?_
   first | refine xq 12 (G_ rfl rfl rfl) rfl ?_ | refine xq 12 (o_ rfl rfl rfl) rfl ?_
   refine ae (i:=13) rfl an rfl rfl (eS rfl rfl rfl ?_)
   refine⟨.inl (by kernel_rfl),?_⟩
   refine az ?_
   refine aA ?_
   rw[YD (by omega),show left.set p (left.getD p 0-l.po)=less l left p from rfl]
   have hr1:=YC (tl:=tl) (rs:=less l left p) (p:=p) (by rw[Qs];omega)
   have hlg:(less l left p).getD p 0=left.getD p 0-l.po:=by rw[less,List.getD_eq_getElem?_getD,List.getElem?_set_self (by omega)];rfl
   have hsl:(less l left p).length=left.length:=Qs
   rw[hlg]at hr1
   refine W.seq<|W.seq ?_
   refine W.rE (n:=31) rfl ?_
   refine xq 0 (aN rfl rfl) rfl ?_
   refine xq 1 (aN rfl rfl) rfl ?_
   first | refine xq 2 (G_ rfl rfl rfl) rfl ?_ | refine xq 2 (o_ rfl rfl rfl) rfl ?_
   refine xq 3 (iQ rfl rfl) rfl ?_
   refine xq 4 (fO rfl rfl rfl) rfl ?_
   refine xq 5 (aN rfl rfl) rfl ?_
   refine Any.ask (d':=45) (fun apj=>?_) (fun apj=>?_)
   ·refine ap (i:=6) rfl rfl rfl rfl rfl rfl ?_
    refine ap (i:=7) rfl rfl rfl rfl rfl rfl ?_
    refine ap (i:=8) rfl rfl rfl rfl rfl rfl ?_
    refine ap (i:=9) rfl rfl rfl rfl rfl rfl ?_
    refine ap (i:=10) rfl rfl rfl rfl rfl rfl ?_
    refine ap (i:=11) rfl rfl rfl rfl rfl rfl ?_
    refine ap (i:=12) rfl rfl rfl rfl rfl rfl ?_
    refine ap (i:=13) rfl rfl rfl rfl rfl rfl ?_
    refine ap (i:=14) rfl rfl rfl rfl rfl rfl ?_
    refine ap (i:=15) rfl rfl rfl rfl rfl rfl ?_
    refine ap (i:=16) rfl rfl rfl rfl rfl rfl ?_
    refine xq 17 (dG rfl rfl rfl) rfl ?_
    refine xq 18 (aN rfl rfl) rfl ?_
    refine ap (i:=19) rfl rfl rfl rfl rfl rfl ?_
    refine ap (i:=20) rfl rfl rfl rfl rfl rfl ?_
    refine ap (i:=21) rfl rfl rfl rfl rfl rfl ?_
    refine ap (i:=22) rfl rfl rfl rfl rfl rfl ?_
    refine ap (i:=23) rfl rfl rfl rfl rfl rfl ?_
    refine ap (i:=24) rfl rfl rfl rfl rfl rfl ?_
    refine ap (i:=25) rfl rfl rfl rfl rfl rfl ?_
    refine ap (i:=26) rfl rfl rfl rfl rfl rfl ?_
    refine ap (i:=27) rfl rfl rfl rfl rfl rfl ?_
    refine ap (i:=28) rfl rfl rfl rfl rfl rfl ?_
    refine ap (i:=29) rfl rfl rfl rfl rfl rfl ?_
    refine xq 30 (dG rfl rfl rfl) rfl ?_
    refine az ?_
    refine aA ?_
    refine W.dW ?_
    refine W.seq<|W.region rfl<|agb rfl rfl rfl<|pq<|W.ret<|aY<|cZ<|aY<|aY ?_
    refine cZ<|aY ?_
    have hb:(fits l left p&&P9 ps l.qu p)=false:=by
     rw[ht,fits]
     first
     | (rw[decide_eq_true (show left.getD p 0<l.po by omega)];rfl)
     | (rw[decide_eq_false (show¬pn.lo≤l.qu by omega)];simp)
     | (rw[decide_eq_false (show¬l.qu≤pn.hi by omega)];simp)
    refine uZ ?_
    rw[hpd,amR hb];rfl
   ·refine aq (i:=6) (aN rfl rfl) rfl (b_ rfl rfl rfl rfl) rfl rfl ?_
    refine aq (i:=7) (aN rfl rfl) rfl (b_ rfl rfl rfl rfl) rfl rfl ?_
    first | refine aq (i:=8) (G_ rfl rfl rfl) rfl (b_ rfl rfl rfl rfl) rfl rfl ?_ | refine aq (i:=8) (o_ rfl rfl rfl) rfl (b_ rfl rfl rfl rfl) rfl rfl ?_
    refine aq (i:=9) (ay rfl rfl) rfl (b_ rfl rfl rfl rfl) rfl rfl ?_
    refine aq (i:=10) (iQ rfl rfl) rfl (b_ rfl rfl rfl rfl) rfl rfl ?_
    refine aq (i:=11) (aN rfl rfl) rfl (b_ rfl rfl rfl rfl) rfl rfl ?_
    refine aq (i:=12) (aN rfl rfl) rfl (b_ rfl rfl rfl rfl) rfl rfl ?_
    first | refine aq (i:=13) (G_ rfl rfl rfl) rfl (b_ rfl rfl rfl rfl) rfl rfl ?_ | refine aq (i:=13) (o_ rfl rfl rfl) rfl (b_ rfl rfl rfl rfl) rfl rfl ?_
    refine aq (i:=14) (ay rfl rfl) rfl (b_ rfl rfl rfl rfl) rfl rfl ?_
    refine aq (i:=15) (iQ rfl rfl) rfl (b_ rfl rfl rfl rfl) rfl rfl ?_
    refine aq (i:=16) (fO rfl rfl rfl) rfl (b_ rfl rfl rfl rfl) rfl rfl ?_
    refine xq 17 (iH rfl rfl rfl) rfl ?_
    refine xq 18 (aN rfl rfl) rfl ?_
    refine Any.ask (d':=58) (fun aow=>?_) (fun aow=>?_)
    ·refine ap (i:=19) rfl rfl rfl rfl rfl rfl ?_
     refine ap (i:=20) rfl rfl rfl rfl rfl rfl ?_
     refine ap (i:=21) rfl rfl rfl rfl rfl rfl ?_
     refine ap (i:=22) rfl rfl rfl rfl rfl rfl ?_
     refine ap (i:=23) rfl rfl rfl rfl rfl rfl ?_
     refine ap (i:=24) rfl rfl rfl rfl rfl rfl ?_
     refine ap (i:=25) rfl rfl rfl rfl rfl rfl ?_
     refine ap (i:=26) rfl rfl rfl rfl rfl rfl ?_
     refine ap (i:=27) rfl rfl rfl rfl rfl rfl ?_
     refine ap (i:=28) rfl rfl rfl rfl rfl rfl ?_
     refine ap (i:=29) rfl rfl rfl rfl rfl rfl ?_
     refine xq 30 (dG rfl rfl rfl) rfl ?_
     refine az ?_
     refine aA ?_
     refine W.dW ?_
     refine W.seq<|W.region rfl<|agb rfl rfl rfl<|pq<|W.ret<|aY<|cZ<|aY<|aY ?_
     refine cZ<|aY ?_
     have hb:(fits l left p&&P9 ps l.qu p)=false:=by
      rw[ht,fits]
      first
      | (rw[decide_eq_true (show left.getD p 0<l.po by omega)];rfl)
      | (rw[decide_eq_false (show¬pn.lo≤l.qu by omega)];simp)
      | (rw[decide_eq_false (show¬l.qu≤pn.hi by omega)];simp)
     refine uZ ?_
     rw[hpd,amR hb];rfl
    ·refine aq (i:=19) (aN rfl rfl) rfl (b_ rfl rfl rfl rfl) rfl rfl ?_
     refine aq (i:=20) (aN rfl rfl) rfl (b_ rfl rfl rfl rfl) rfl rfl ?_
     first | refine aq (i:=21) (G_ rfl rfl rfl) rfl (b_ rfl rfl rfl rfl) rfl rfl ?_ | refine aq (i:=21) (o_ rfl rfl rfl) rfl (b_ rfl rfl rfl rfl) rfl rfl ?_
     refine aq (i:=22) (ay rfl rfl) rfl (b_ rfl rfl rfl rfl) rfl rfl ?_
     refine aq (i:=23) (iQ rfl rfl) rfl (b_ rfl rfl rfl rfl) rfl rfl ?_
     refine aq (i:=24) (aN rfl rfl) rfl (b_ rfl rfl rfl rfl) rfl rfl ?_
     refine aq (i:=25) (aN rfl rfl) rfl (b_ rfl rfl rfl rfl) rfl rfl ?_
     first | refine aq (i:=26) (G_ rfl rfl rfl) rfl (b_ rfl rfl rfl rfl) rfl rfl ?_ | refine aq (i:=26) (o_ rfl rfl rfl) rfl (b_ rfl rfl rfl rfl) rfl rfl ?_
     refine aq (i:=27) (ay rfl rfl) rfl (b_ rfl rfl rfl rfl) rfl rfl ?_
     refine aq (i:=28) (iQ rfl rfl) rfl (b_ rfl rfl rfl rfl) rfl rfl ?_
     refine aq (i:=29) (rC rfl rfl rfl) rfl (b_ rfl rfl rfl rfl) rfl rfl ?_
     refine xq 30 (iH rfl rfl rfl) rfl ?_
     refine az ?_
     refine aA ?_
     refine W.bC rfl (fun c70=>?_) (fun c70=>?_)
     ·refine W.seq<|W.region rfl<|agb rfl rfl rfl<|pq<|W.ret<|aY<|cZ<|aY<|aY ?_
      refine cZ<|aY ?_
      have hb:(fits l left p&&P9 ps l.qu p)=false:=by
       rw[ht,fits]
       first
       | (rw[decide_eq_true (show left.getD p 0<l.po by omega)];rfl)
       | (rw[decide_eq_false (show¬pn.lo≤l.qu by omega)];simp)
       | (rw[decide_eq_false (show¬l.qu≤pn.hi by omega)];simp)
      refine uZ ?_
      rw[hpd,amR hb];rfl
     ·refine W.skip<|aA<|W.region rfl<|qm rfl rfl rfl<|qm rfl rfl rfl<|qm rfl rfl rfl ?_
      refine ag3 rfl ?_
      refine agY rfl ?_
      refine agX rfl ?_
      refine ag1 rfl ?_
      refine agb rfl rfl rfl<|Ops.nil<|dI<|aA<|W.region rfl<|qm rfl rfl rfl ?_
      refine ag1 rfl ?_
      refine agb rfl rfl rfl<|pq ?_
      have hf:fits l left p=true:=by rw[fits,decide_eq_false (show¬left.getD p 0<l.po by omega)];rfl
      have hb:(fits l left p&&P9 ps l.qu p)=true:=by
       rw[ht,hf,decide_eq_true (show pn.lo≤l.qu by omega),decide_eq_true (show l.qu≤pn.hi by omega)];rfl
      exact⟨rfl,(i+1,acc+l.po,less l left p),⟨hil,by dsimp only;omega,aas hlr (by omega) (by omega) hf,⟨by dsimp only;omega,by dsimp only;omega⟩,by dsimp only;rw[hpd,anx hb]⟩,by dsimp only;omega,⟨rfl,rfl,rfl,rfl,rfl,rfl,trivial⟩,.refl⟩
 ·refine W.exit<|bP<|bP<|gG<|aA<|W.seq<|W.region rfl<|qm rfl rfl rfl<|agb rfl rfl rfl<|Ops.nil ?_
  refine aA<|W.ret ?_
  obtain rfl:i=ls.length:=by omega
  have e:pdF ps ls rs x 0=acc:=by
   rw[hpd,List.drop_length,←hxl,List.drop_length,pdF]
   simp[alZ,Ba]
  refine uZ ?_ (hs:=by unfold Iu;split;exact .nil;exact .cons rfl .nil)
  rw[e];rfl
end Go.aS

/- SyrupShared: what is kept as all lists are gone through. Conditions: none; over the given program. -/
namespace Go.aS
set_option maxRecDepth 100000
set_option maxHeartbeats 4000000
def amS(ps:List Pn)(ls:List Lt)(rs:List Int)(i:Nat):List (List Int):=((al9 (ps.length+1) ls.length).take i).filter (alZ ps ls rs)
def StS(ps:List Pn)(ls:List Lt)(rs:List Int)(i:Nat)(w:Int)(B:List (List Int)):Prop:=
 (i=0∧w= -1∧B=[])∨(1≤i∧wE (Ba ls) (amS ps ls rs i)=(w,B)∧B≠[]∧0≤w)
theorem ams{m:Nat}:∀{k:Nat},(al9 (m+1) k)[0]? =some (List.replicate k (-1))
 | 0=>rfl
 | k+1=>by
  have ih:=ams (m:=m) (k:=k)
  rw[amN,List.getElem?_append_left (by
   rw[List.length_map]
   exact(List.getElem?_eq_some_iff.1 ih).1),List.getElem?_map,ih];rfl
theorem amW{ps:List Pn}{rs:List Int}:∀{ls:List Lt},alZ ps ls rs (List.replicate ls.length (-1))=true∧Ba ls (List.replicate ls.length (-1))=0
 | []=>⟨rfl,rfl⟩
 | l::ls=>by
  obtain⟨h1,h2⟩:=amW (ps:=ps) (rs:=rs) (ls:=ls)
  rw[List.length_cons,List.replicate_succ]
  exact⟨by rw[alZ,if_pos (by decide)];exact h1,by rw[Ba,if_neg (by decide),h2];rfl⟩
theorem anc{ps:List Pn}{ls:List Lt}{rs x:List Int}{i:Nat}(h:(al9 (ps.length+1) ls.length)[i]? =some x):amS ps ls rs (i+1)=amS ps ls rs i++if alZ ps ls rs x then[x]else[]:=by
 rw[amS,List.take_add_one,h,List.filter_append,amS]
 congr 1
 show[x].filter (alZ ps ls rs)=_
 rw[List.filter_cons];rfl
theorem amE{X:Type}[DecidableEq X]{f:X→Int}{xs:List X}{x:X}:wE f (xs++[x])=jQ (wE f xs) x (f x):=by
 rw[wE,List.foldl_append];rfl
theorem StS.next{ps:List Pn}{ls:List Lt}{rs x:List Int}{i:Nat}{w:Int}{B:List (List Int)}(h4:ps.length≤4)(hlo:Au ls)(H:StS ps ls rs i w B)(h:(al9 (ps.length+1) ls.length)[i]? =some x):
  (w<pdF ps ls rs x 0→StS ps ls rs (i+1) (pdF ps ls rs x 0) [x])∧(pdF ps ls rs x 0=w→B≠[]∧StS ps ls rs (i+1) w (B++[x]))∧(pdF ps ls rs x 0<w→StS ps ls rs (i+1) w B):=by
 have hnn:=(ab3 (ls:=ls) (fun l hl=>hlo.lot l hl) (s:=x)).1
 have hpd:pdF ps ls rs x 0=if alZ ps ls rs x then Ba ls x else -1:=by rw[pdF,Int.zero_add]
 have hnx:=anc (rs:=rs) h
 rcases H with⟨rfl,rfl,rfl⟩ | ⟨hi,hm,hB,hw⟩
 ·obtain rfl:x=List.replicate ls.length (-1):=Option.some.inj (h.symm.trans ams)
  obtain⟨hv,hl0⟩:=amW (ps:=ps) (rs:=rs) (ls:=ls)
  rw[hv,if_pos rfl,hl0]at hpd
  rw[hpd]
  refine⟨fun _=>.inr ⟨by omega,?_,by simp,Int.le_refl _⟩,fun h=>by omega,fun h=>by omega⟩
  rw[hnx,hv,if_pos rfl,amE,hl0]
  rw[show amS ps ls rs 0=[]from rfl]
  simp[wE,jQ]
 ·cases hv:alZ ps ls rs x
  ·rw[hv]at hpd hnx
   rw[if_neg (by decide)]at hpd
   rw[if_neg (by decide),List.append_nil]at hnx
   rw[hpd]
   refine⟨fun h=>by omega,fun h=>by omega,fun _=>.inr ⟨by omega,by rw[hnx];exact hm,hB,hw⟩⟩
  ·rw[hv,if_pos rfl]at hpd hnx
   rw[hpd]
   have hxB:x∉B:=by
    have hnd:(amS ps ls rs (i+1)).Nodup:=by
     have:(yS ps ls rs).Nodup:=qX
     rw[amV h4 (fun l hl=>(hlo.lot l hl).1)]at this
     exact(List.Sublist.filter _ (List.take_sublist _ _)).nodup this
    rw[hnx,List.nodup_append]at hnd
    intro hx
    have hM:=(EU (f:=Ba ls) hnd.1).eq
    rw[hm]at hM
    dsimp only at hM
    rw[hM]at hx
    exact hnd.2.2 x (List.mem_filter.1 hx).1 x (List.mem_singleton.2 rfl) rfl
   have hmn:wE (Ba ls) (amS ps ls rs (i+1))=jQ (w,B) x (Ba ls x):=by rw[hnx,amE,hm]
   refine⟨fun h=>.inr ⟨by omega,?_,by simp,by omega⟩,fun h=>⟨hB,.inr ⟨by omega,?_,by simp,hw⟩⟩,fun h=>.inr ⟨by omega,?_,hB,hw⟩⟩
   ·rw[hmn,jQ,if_neg (by simp only;omega)]
    simp only[if_pos h,List.not_mem_nil,if_false,List.nil_append]
   ·rw[hmn,jQ,if_neg (by simp only;omega)]
    rw[h]
    simp only[Int.lt_irrefl,if_false,if_neg hxB]
   ·rw[hmn,jQ,if_pos ⟨hB,h⟩]
theorem StS.all{ps:List Pn}{ls:List Lt}{rs:List Int}{w:Int}{B:List (List Int)}(h4:ps.length≤4)(hlo:Au ls)(H:StS ps ls rs (al9 (ps.length+1) ls.length).length w B):oZ ps ls rs=(w,B):=by
 rcases H with⟨h,-⟩ | ⟨-,h,-⟩
 ·have:=(List.getElem?_eq_some_iff.1 (ams (m:=ps.length) (k:=ls.length))).1
  omega
 ·rw[oZ,amV h4 (fun l hl=>(hlo.lot l hl).1),←h,amS,List.take_length]
def amh(B:List (List Int))(k:Nat):Nat:=(B.filter fun s=>decide (0≤s.getD k 0)).length
theorem ane{B:List (List Int)}{x:List Int}{k:Nat}:amh (B++[x]) k=amh B k+if 0≤x.getD k 0 then 1 else 0:=by
 rw[amh,List.filter_append,List.length_append]
 congr 1
 rw[List.filter_cons]
 by_cases h:0≤x.getD k 0
 ·rw[if_pos h,if_pos (decide_eq_true h)];rfl
 ·rw[if_neg h,if_neg (by simpa using h)];rfl
theorem an7{B:List (List Int)}{k n:Nat}(hB:∀s∈B,s.length=n)(hk:k<n)(hn:n≤4):amh B k=amJ B k:=by
 rw[amh,amJ]
 congr 1
 refine List.filter_congr fun s hs=>?_
 have:(kC s).getD k 0=s.getD k 0:=by
  rw[kC,List.getD_eq_getElem?_getD,List.getD_eq_getElem?_getD,List.getElem?_append_left (by rw[hB s hs];exact hk)]
 rw[this]
def al3(B:List (List Int))(x:List Int)(n k:Nat):List Int:=(List.range n).map fun j=>((amh B j+if j<k∧0≤x.getD j 0 then 1 else 0:Nat):Int)
theorem anf{B:List (List Int)}{x y:List Int}{n:Nat}:al3 B x n 0=al3 B y n 0:=by
 simp[al3]
theorem anl{x:List Int}{n:Nat}:al3 [] x n 0=List.replicate n 0:=by
 rw[al3,List.eq_replicate_iff]
 exact⟨by simp,fun b hb=>by obtain⟨j,-,rfl⟩:=List.mem_map.1 hb;simp[amh]⟩
theorem amm{B:List (List Int)}{x:List Int}{n k:Nat}:(al3 B x n k).length=n:=by simp[al3]
theorem amn{B:List (List Int)}{x:List Int}{n k j:Nat}(h:j<n):(al3 B x n k)[j]? =some (((amh B j+if j<k∧0≤x.getD j 0 then 1 else 0:Nat)):Int):=by
 rw[al3,List.getElem?_map,List.getElem?_range h];rfl
theorem anm{B:List (List Int)}{x y:List Int}{n:Nat}:al3 B x n n=al3 (B++[x]) y n 0:=by
 refine List.map_congr_left fun j hj=>?_
 have:=List.mem_range.1 hj
 have e0:(if j<0∧0≤y.getD j 0 then 1 else 0:Nat)=0:=if_neg fun h'=>absurd h'.1 (Nat.not_lt_zero _)
 rw[e0,ane,Nat.add_zero]
 by_cases h:0≤x.getD j 0
 ·rw[if_pos h,if_pos ⟨this,h⟩]
 ·rw[if_neg h,if_neg (fun h'=>h h'.2)]
theorem ang{B:List (List Int)}{x:List Int}{n k:Nat}(h:¬0≤x.getD k 0):al3 B x n (k+1)=al3 B x n k:=by
 refine List.map_congr_left fun j hj=>?_
 by_cases hjk:j=k
 ·subst hjk;rw[if_neg (fun h'=>h h'.2),if_neg (fun h'=>h h'.2)]
 ·congr 2
  by_cases hlt:j<k
  ·simp[hlt,show j<k+1 by omega]
  ·simp[hlt,show¬j<k+1 by omega]
theorem ano{B:List (List Int)}{x:List Int}{n k:Nat}(hk:k<n)(h:0≤x.getD k 0):(al3 B x n k).set k ((amh B k:Int)+1)=al3 B x n (k+1):=by
 apply List.ext_getElem?
 intro j
 rw[List.getElem?_set,amm]
 by_cases hjk:k=j
 ·subst hjk
  rw[if_pos rfl,if_pos hk,amn hk,if_pos ⟨by omega,h⟩];rfl
 ·rw[if_neg hjk]
  by_cases hj:j<n
  ·rw[amn hj,amn hj]
   congr 3
   by_cases hlt:j<k
   ·simp[hlt,show j<k+1 by omega]
   ·simp[hlt,show¬j<k+1 by omega]
  ·rw[List.getElem?_eq_none (by rw[amm];omega),List.getElem?_eq_none (by rw[amm];omega)]
def amc(g:List Int)(k:Nat):List Int:=(g.take k).map (· - 1)++g.drop k
theorem anh{g:List Int}:amc g 0=g:=by simp[amc]
theorem anp{g:List Int}:amc g g.length=g.map (· - 1):=by simp[amc]
theorem anq{g:List Int}{k:Nat}:(amc g k).length=g.length:=by simp[amc];omega
theorem anA{g:List Int}{k:Nat}{a:Int}(h:g[k]? =some a):(amc g k).getD k 0=a:=by
 have hk:=(List.getElem?_eq_some_iff.1 h).1
 rw[List.getD_eq_getElem?_getD,amc,List.getElem?_append_right (by rw[List.length_map,List.length_take];omega),List.length_map,List.length_take,Nat.min_eq_left (by omega),Nat.sub_self,List.getElem?_drop,Nat.add_zero,h];rfl
theorem ani{g:List Int}{k:Nat}{a:Int}(h:g[k]? =some a):(amc g k).set k (a-1)=amc g (k+1):=by
 have hk:=(List.getElem?_eq_some_iff.1 h).1
 obtain⟨p,hp,hdr⟩:=has hk
 obtain rfl:=Option.some.inj (hp.symm.trans h)
 rw[amc,amc,List.set_append_right _ _ (by rw[List.length_map,List.length_take];omega),List.length_map,List.length_take,Nat.min_eq_left (by omega),Nat.sub_self,hdr,List.take_add_one,h,List.map_append]
 simp
theorem aox{o:Option (Nat×List Value)}{n:Nat}{vm:Value}{x:List Int}(h:RmV o n vm)(hx:x.length=n):Vx (Iu o x) vm x:=by
 cases o with
 | none=>
  obtain⟨rfl,rfl⟩:=h
  obtain rfl:=List.length_eq_zero_iff.1 hx
  exact⟨.nil,fun _ _=>.nil⟩
 | some y=>
  obtain⟨cap,rfl⟩:=h
  refine⟨.cons rfl .nil,fun h hL=>?_⟩
  refine Sl.mk (hL y.1 _ (.head _)) hx.symm ?_
  rw[YE]
  exact⟨[],y.2,rfl,rfl⟩
end Go.aS

/- SyrupShared. Conditions: none; over the given program. -/
namespace Go.aS
set_option maxRecDepth 100000
set_option maxHeartbeats 4000000
theorem anr{ps:List Pn}{ls:List Lt}{rs:List Int}(hps:nV ps=0)(hl:ls.length≤4)(hlb:∀p∈ls,Ar p=false)(hr:rs.length=ps.length)(hrb:∀r∈rs,0≤r∧r≤20):ji ps ls rs=0:=by
 have h1:Ig ls=0:=by
  rw[Ig,if_neg (by omega),if_neg]
  rw[List.any_eq_true]
  rintro⟨p,hp,h⟩
  rw[hlb p hp]at h;cases h
 have h2:K_ ps.length rs=0:=by
  rw[K_,if_neg (by omega),if_neg (by omega),if_neg]
  rw[List.any_eq_true]
  rintro⟨r,hr,h⟩
  have:=hrb r hr
  rw[decide_eq_true_iff]at h
  unfold outs at h;omega
 rw[ji,if_neg (by rw[hps];simp),if_neg (by rw[h1];simp),h2]
theorem am5{B:List (List Int)}{k:Nat}:amh B k≤B.length:=List.length_filter_le ..
theorem amB(main:Side)(hS:∀S,main.ok S→∃Fin,S=Mo prog Fin)(hmb:main.b=true)(h:Hp)(nums:List Int)(lv:Value)(Eg:TypeId)(zg:Nat×Nat)(hl:Sl h fH lv nums)(hg:h 0=some (.cells #[Ur qM] Eg zg))(z0:h.z 0):QE prog main alz #[lv] h (.bool true):=by
 refine QE.aG alY rfl (by show 1≤155;decide) [(0,lv)] ⟨rfl,trivial⟩ ?_
 refine W.seq<|W.region rfl<|agb rfl rfl rfl<|pq<|W.seq<|W.region rfl<|qm rfl rfl rfl ?_
 refine c0 (fun h' hE hL=>VQ _ h' nums lv (hl.ext hE)) (fun v A' hv=>?_)
 obtain⟨b,s0,rfl,rfl⟩:=hv
 refine agb rfl rfl rfl<|pq<|W.seq<|W.region rfl<|qm rfl rfl rfl ?_
 refine cg (A:=[(b,wF lv 0 s0)]) .head (fun h' hE hL=>VT _ h' nums lv b 0 s0 3 (hl.ext hE) (by omega) (by omega)) (fun v A' hv=>?_)
 obtain⟨ps,Sp,k',s',hO,⟨hpl,hck⟩,hk',hsb⟩:=hv
 refine Ops.sb (F':=Sp++[(b,wF lv k' s')]) (by rw[List.append_nil];exact Sb.trans (.dF List.perm_append_comm) hsb) ?_
 have hps:=aaD (by omega) hck
 have hok:=iP.yB hps
 have h4:=hok.len
 refine qm rfl rfl rfl ?_
 refine cg (A:=[(b,wF lv k' s')]) (.app .all) (fun h' hE hL=>am6 _ h' nums lv b k' s' 4 (hl.ext hE) (by omega) (by omega)) (fun v A' hv=>?_)
 obtain⟨ls,Sq,k2,s2,hOl,⟨hll,hlb⟩,hk2,Oh⟩:=hv
 refine Ops.sb (F':=Sp++(Sq++[(b,wF lv k2 s2)])) (.app .refl (Sb.trans (.dF List.perm_append_comm) Oh)) ?_
 refine agb rfl rfl rfl<|agb rfl rfl rfl<|pq ?_
 refine JU hO (fun hz hEz hsl hzs=>?_)
 refine JU hOl (fun hy hEy amK _=>?_)
 obtain⟨a,cap,rfl⟩:=hsl.dA
 obtain⟨a2,cap2,rfl⟩:=amK.dA
 have hgz:=hEy.1 _ _ (hEz.1 _ _ hg)
 replace hsl:=hsl.ext hEy
 refine W.seq<|W.region rfl<|qm rfl rfl rfl<|qm rfl rfl rfl ?_
 refine agW (dM rfl rfl) rfl ?_
 refine cg (A:=[(b,wF lv k2 s2)]) .all (fun h' hE hL=>amY _ h' nums lv b k2 s2 ps.length (hl.ext (hEz.trans (hEy.trans hE))) (by omega) (by omega)) (fun v A' hv=>?_)
 obtain⟨rs,Sr,k3,s3,hOr,⟨hrl,hrb⟩,-,afy⟩:=hv
 refine Ops.sb (F':=Sr++[]) (by rw[List.append_nil];exact(Sb.skip rfl .refl).trans afy) ?_
 have hE0:=anr hps hll hlb hrl hrb
 obtain⟨-,hlo,hro⟩:=aaA hE0
 refine agb rfl rfl rfl<|pq ?_
 refine JU hOr (fun hz2 agM amX _=>?_)
 obtain⟨a3,cap3,rfl⟩:=amX.dA
 replace hgz:=agM.1 _ _ hgz
 replace hsl:=hsl.ext agM
 replace amK:=amK.ext agM
 refine W.seq<|W.region rfl<|qm rfl rfl rfl<|qm rfl rfl rfl<|qm rfl rfl rfl ?_
 refine c0 (fun h' hE hL=>YK _ h' ps ls rs _ _ _ (hsl.ext hE) (amK.ext hE) (amX.ext hE)) (fun v A' hv=>?_)
 obtain⟨vg,S4,hv4,hO4,af4⟩:=hv
 rw[AA,if_neg (by rw[hE0];simp)]at hv4 hO4
 dsimp only at hv4 hO4
 subst hv4
 refine Ops.sb (F':=S4++[]) (by simpa using af4) ?_
 refine qm rfl rfl rfl<|oq (bD rfl rfl rfl) rfl wn rfl rfl<|oq (bD rfl rfl rfl) rfl wn rfl rfl<|oq (bD rfl rfl rfl) rfl wn rfl rfl<|agb rfl rfl rfl<|agb rfl rfl rfl<|agb rfl rfl rfl<|pq ?_
 refine JU hO4 (fun hz3 aiX hsg _=>?_)
 replace hgz:=aiX.1 _ _ hgz
 replace hsl:=hsl.ext aiX
 replace amK:=amK.ext aiX
 replace amX:=amX.ext aiX
 refine W.seq<|W.seq<|W.region rfl<|qm rfl rfl rfl ?_
 refine agW (nG rfl rfl rfl) rfl ?_
 refine pq ?_
 refine W.bC rfl (fun c43=>?_) (fun c43=>?_)
 ·refine W.seq<|W.region rfl<|agb rfl rfl rfl<|pq<|W.ret<|aY ?_
  exact absurd rfl c43
 ·refine W.skip<|aA<|W.seq<|W.region rfl<|qm rfl rfl rfl ?_
  refine agW (dM rfl rfl) rfl ?_
  refine KU (Zi rfl rfl rfl) (congrArg (Value.int .i64) (show(ps.length:Int)+1=((ps.length+1:Nat):Int) by omega)) rfl wn rfl rfl ?_
  refine qm rfl rfl rfl ?_
  refine agW (dM rfl rfl) rfl ?_
  refine c0 (fun h' hE hL=>agz _ h' (ps.length+1) ls.length (by omega) (by omega)) (fun v A' hv=>?_)
  obtain⟨O,us,B0,hO5,hB5,afA⟩:=hv
  refine Ops.sb (F':=O++(B0++[])) (by simpa using afA) ?_
  refine agb rfl rfl rfl<|pq ?_
  obtain⟨sa,sc,rfl⟩:=hO5.dA
  refine JU hO5 (fun hz4 hE4 ahe _=>?_)
  refine agG hB5 (fun hz5 hE5 hslB=>?_)
  replace ahe:=ahe.ext hE5
  replace hgz:=hE5.1 _ _ (hE4.1 _ _ hgz)
  replace hsl:=hsl.ext (hE4.trans hE5)
  replace amK:=amK.ext (hE4.trans hE5)
  replace amX:=amX.ext (hE4.trans hE5)
  replace hsg:=hsg.ext (hE4.trans hE5)
  have hul:=hB5.len
  have hbd:=agc (m:=ps.length+1) (k:=ls.length) (by omega) (by omega)
  have hc0:uV (al3 [] [] ls.length 0)=(List.replicate ls.length (I 0)).toArray:=by rw[anl,uV,List.map_replicate]
  refine W.seq<|W.region rfl<|agb rfl rfl rfl<|pq<|W.seq<|W.region rfl<|agb rfl rfl rfl<|agb rfl rfl rfl<|Ops.nil ?_
  refine aA<|W.seq<|W.region rfl<|qm rfl rfl rfl ?_
  refine agW (dM rfl rfl) rfl ?_
  refine oe rfl wn rfl rfl (G8 (n:=ls.length) rfl rfl rfl (by omega) (fun βc=>?_))
  rw[←hc0]
  refine agb rfl rfl rfl<|pq<|W.seq<|W.seq<|W.region rfl<|agb rfl rfl rfl<|pq<|W.block ?_
  refine W.loop (σ:=Nat×Int×List (List Int)×Nat×Value×ah) (fun t=>t.1≤us.length∧StS ps ls rs t.1 t.2.1 t.2.2.1∧t.2.2.1.length≤t.1∧(∀s∈t.2.2.1,s.length=ls.length)∧Vx t.2.2.2.2.2 t.2.2.2.2.1 (t.2.2.1.headD []))
   (fun t=>[(15,I t.1),(14,.slice (some ⟨t.2.2.2.1,0,none⟩) ls.length ls.length),(13,I t.2.2.1.length),(12,I t.2.1),(11,t.2.2.2.2.1),(10,.slice sa us.length sc),(8,I (oZ ps ls rs).1),(7,vg),(6,.slice a3 rs.length cap3),(5,.slice a2 ls.length cap2),(4,.slice a ps.length cap)])
   (fun t=>(t.2.2.2.1,.cells (uV (al3 t.2.2.1 [] ls.length 0)) dL (0,0))::t.2.2.2.2.2) (fun t=>us.length-t.1) (0,-1,[],βc,.slice none 0 0,[]) ⟨Nat.zero_le _,.inl ⟨rfl,rfl,rfl⟩,Nat.le_refl _,(fun s hs=>by cases hs),.nil,fun _ _=>.nil⟩ ⟨rfl,rfl,rfl,rfl,rfl,rfl,rfl,rfl,rfl,rfl,rfl,trivial⟩ .refl ?_
  rintro⟨i,w,B,βc,vf,Sf⟩ ⟨hi,hSt,hBi,hBl,hSf⟩
  dsimp only at*
  refine W.seq<|W.seq<|W.region rfl<|qm rfl rfl rfl<|qm rfl rfl rfl ?_
  refine agW (dM rfl rfl) rfl ?_
  refine agW (fO rfl rfl rfl) rfl ?_
  refine pq ?_
  refine W.bC rfl (fun c56=>?_) (fun c56=>?_)
  ·have hil:i<us.length:=by omega
   obtain⟨g,hg9,-⟩:=has (show i<(aff (ps.length+1) ls.length).length by omega)
   obtain⟨s,hs0,-⟩:=has hil
   have hgl:g.length=ls.length:=agE (List.mem_of_getElem? hg9)
   have hga:∀y∈g,0≤y∧y≤ps.length:=by
    have:=List.mem_of_getElem? hg9
    rw[afL]at this
    obtain⟨v,hv,rfl⟩:=List.mem_map.1 this
    intro y hy
    obtain⟨n,hn,rfl⟩:=List.mem_map.1 hy
    have:=(afh.1 hv).2 n hn
    omega
   have hsu:=(hslB i s g hs0 hg9).1
   have hxs:(al9 (ps.length+1) ls.length)[i]? =some (g.map (· - 1)):=by rw[al9,List.getElem?_map,hg9];rfl
   have hnext:=hSt.next h4 hlo hxs
   have hxl:(g.map (· - 1)).length=ls.length:=by rw[List.length_map];exact hgl
   have hxa:∀y:Int,y∈g.map (· - 1)→-1≤y∧y<(ps.length:Int):=fun y hy=>by
    obtain⟨n,hn,rfl⟩:=List.mem_map.1 hy
    have:=hga n hn
    omega
   obtain⟨bo,aiK,co,Eo,fzo,hvo,hbo,-,-,hzo⟩:=ahe.at hs0
   cases hvo
   have hco:co[aiK+i*1]? =some (.slice s.a s.n s.cap):=hzo 0 (by decide)
   refine W.skip<|aA<|W.seq<|W.block<|W.seq<|W.region rfl<|qm rfl rfl rfl<|qm rfl rfl rfl ?_
   refine ag3 rfl ?_
   refine agX rfl ?_
   refine c0 (fun h' hE hL=>af0 _ h' g s.val (hsu.ext hE) (by omega)) (fun vm A' hv=>?_)
   obtain⟨S6,hS6,anP⟩:=hv
   obtain⟨o,hrm,anQ⟩:=aau hS6
   rw[hgl]at hrm
   obtain⟨a6,c6,rfl⟩:=hrm.dA
   refine Ops.sb (F':=Iu o g++((βc,.cells (uV (al3 B [] ls.length 0)) dL (0,0))::Sf)) ((anQ.trans anP).app .refl) ?_
   refine agb rfl rfl rfl<|pq<|W.seq<|W.seq<|W.region rfl<|agb rfl rfl rfl<|pq<|W.block ?_
   refine W.loop (σ:=Nat) (fun k=>k≤ls.length) (fun k=>[(17,I k),(16,.slice a6 ls.length c6),(15,I i),(14,.slice (some ⟨βc,0,none⟩) ls.length ls.length),(13,I B.length),(12,I w),(11,vf),(10,.slice (some ⟨bo,aiK,none⟩) us.length sc),(8,I (oZ ps ls rs).1),(7,vg),(6,.slice a3 rs.length cap3),(5,.slice a2 ls.length cap2),(4,.slice a ps.length cap)])
    (fun k=>Iu o (amc g k)++((βc,.cells (uV (al3 B [] ls.length 0)) dL (0,0))::Sf)) (fun k=>ls.length-k) 0 (Nat.zero_le _) ⟨rfl,rfl,rfl,rfl,rfl,rfl,rfl,rfl,rfl,rfl,rfl,rfl,rfl,trivial⟩ (.eq (by rw[anh])) ?_
   rintro k hk
   refine W.seq<|W.seq<|W.region rfl<|qm rfl rfl rfl<|qm rfl rfl rfl ?_
   refine agW (dM rfl rfl) rfl ?_
   refine agW (fO rfl rfl rfl) rfl ?_
   refine pq ?_
   refine W.bC rfl (fun c67=>?_) (fun c67=>?_)
   ·have hkl:k<ls.length:=by omega
    obtain⟨y,rfl⟩:∃y,o=some y:=by
     cases o with
     | none=>have:=hrm.1;omega
     | some y=>exact⟨y,rfl⟩
    obtain⟨βr,tl⟩:=y
    obtain⟨cap5,he5⟩:=hrm
    cases he5
    obtain⟨y0,hy0,-⟩:=has (show k<g.length by omega)
    have hyb:=hga y0 (List.mem_of_getElem? hy0)
    have apS:(amc g k).length=g.length:=anq
    have hr0:=YC (tl:=tl) (rs:=amc g k) (p:=k) (by omega)
    rw[anA hy0]at hr0
    have hsz:=Uy (tl:=tl) (rs:=amc g k) (p:=k) (by omega)
    refine W.sb (F':=(βr,QK tl (amc g k))::((βc,.cells (uV (al3 B [] ls.length 0)) dL (0,0))::Sf)) .refl ?_
    refine W.skip<|aA<|W.seq<|W.block<|W.region rfl<|qm rfl rfl rfl<|qm rfl rfl rfl<|qm rfl rfl rfl<|qm rfl rfl rfl ?_
    refine ag3 rfl ?_
    refine agX rfl ?_
    refine ag5 rfl ?_
    refine ag3 rfl ?_
    refine Ops.yG ?_
    refine Ops.nil<|dI<|aA<|W.region rfl<|qm rfl rfl rfl ?_
    refine ag1 rfl ?_
    refine agb rfl rfl rfl<|pq ?_
    refine⟨rfl,k+1,hkl,by omega,⟨rfl,rfl,rfl,rfl,rfl,rfl,rfl,rfl,rfl,rfl,rfl,rfl,rfl,trivial⟩,.eq ?_⟩
    rw[YD (by omega),ani hy0];rfl
   ·obtain rfl:k=ls.length:=by omega
    rw[show amc g ls.length=g.map (· - 1) by rw[←hgl,anp]]
    have hrd:=aox hrm hxl
    refine W.exit<|bP<|bP<|gG<|aA<|W.seq<|W.region rfl<|qm rfl rfl rfl<|qm rfl rfl rfl<|qm rfl rfl rfl ?_
    refine qm rfl rfl rfl ?_
    refine cp (fun h' hE hL=>am0 _ h' ps ls rs (g.map (· - 1)) _ _ _ _ hok hlo hro hxl hxa (hsl.ext hE) (amK.ext hE) (amX.ext hE) (hrd.2 _ (fun b o' hb=>hL b o' (List.mem_append_left _ hb)))) ?_
    generalize pdF ps ls rs (g.map (· - 1)) 0=p at hnext⊢
    refine agb rfl rfl rfl<|pq<|W.seq ?_
    refine W.aiB (σ:=Int×List (List Int)×Nat×Value×ah) (fun t=>(t.1=p∧t.2.1=[]∧w<p∧t.2.2.2.1= .slice a6 ls.length c6∧t.2.2.2.2=[])∨(t.1=w∧t.2.1=B∧p≤w∧t.2.2.2.1=vf∧t.2.2.2.2=Sf))
     (fun t=>[(18,I p),(16,.slice a6 ls.length c6),(15,I i),(14,.slice (some ⟨t.2.2.1,0,none⟩) ls.length ls.length),(13,I t.2.1.length),(12,I t.1),(11,t.2.2.2.1),(10,.slice (some ⟨bo,aiK,none⟩) us.length sc),(8,I (oZ ps ls rs).1),(7,vg),(6,.slice a3 rs.length cap3),(5,.slice a2 ls.length cap2),(4,.slice a ps.length cap)])
     (fun t=>(t.2.2.1,.cells (uV (al3 t.2.1 [] ls.length 0)) dL (0,0))::(Iu o (g.map (· - 1))++t.2.2.2.2)) ?_ ?_
    ·refine W.seq<|W.region rfl<|qm rfl rfl rfl<|qm rfl rfl rfl ?_
     refine agW (rC rfl rfl rfl) rfl ?_
     refine pq ?_
     refine W.bC rfl (fun c85=>?_) (fun c85=>?_)
     ·refine W.DR [] (n:=9) rfl ?_
      refine xq 0 (aN rfl rfl) rfl ?_
      refine xq 1 (aN rfl rfl) rfl ?_
      refine xq 2 (aN rfl rfl) rfl ?_
      refine xq 3 (dM rfl rfl) rfl ?_
      refine xq 5 (jS rfl rfl) rfl ?_
      refine xq 6 (jS rfl rfl) rfl ?_
      refine xq 7 (jS rfl rfl) rfl ?_
      refine ae (i:=4) rfl an rfl rfl (G8 (n:=ls.length) rfl rfl rfl (by omega) (fun apm=>?_))
      refine⟨.inr Keeps.nil,?_⟩
      rw[←hc0]
      refine xq 8 (jS rfl rfl) rfl ?_
      refine az ?_
      exact⟨rfl,rfl,(p,[],apm,_,[]),.inl ⟨rfl,rfl,by omega,rfl,rfl⟩,⟨rfl,rfl,rfl,rfl,rfl,rfl,rfl,rfl,rfl,rfl,rfl,rfl,rfl,trivial⟩,.cons (.app .refl (.nil (.cons rfl hSf.1)))⟩
     ·refine W.skip ?_
      exact⟨rfl,rfl,(w,B,βc,vf,Sf),.inr ⟨rfl,rfl,by omega,rfl,rfl⟩,⟨rfl,rfl,rfl,rfl,rfl,rfl,rfl,rfl,rfl,rfl,rfl,rfl,rfl,trivial⟩,.dF List.perm_middle.symm⟩
    ·rintro⟨w2,B2,βd,vf2,Sf2⟩ hc2
     dsimp only at*
     have hB2:B2.length≤i:=by
      rcases hc2 with⟨-,rfl,-⟩ | ⟨-,rfl,-⟩
      ·exact Nat.zero_le _
      ·exact hBi
     refine W.seq<|W.region rfl<|qm rfl rfl rfl<|qm rfl rfl rfl ?_
     refine agW (nD rfl rfl rfl) rfl ?_
     refine pq ?_
     refine W.bC rfl (fun c93=>?_) (fun c93=>?_)
     ·refine W.seq<|W.region rfl<|qm rfl rfl rfl ?_
      refine ag1 rfl ?_
      refine agb rfl rfl rfl<|pq<|W.seq<|W.region rfl<|agb rfl rfl rfl<|pq<|W.block ?_
      refine W.loop (σ:=Nat) (fun k=>k≤ls.length) (fun k=>[(19,I k),(16,.slice a6 ls.length c6),(15,I i),(14,.slice (some ⟨βd,0,none⟩) ls.length ls.length),(13,I ((B2.length+1:Nat))),(12,I w2),(11,vf2),(10,.slice (some ⟨bo,aiK,none⟩) us.length sc),(8,I (oZ ps ls rs).1),(7,vg),(6,.slice a3 rs.length cap3),(5,.slice a2 ls.length cap2),(4,.slice a ps.length cap)])
       (fun k=>(βd,.cells (uV (al3 B2 (g.map (· - 1)) ls.length k)) dL (0,0))::(Iu o (g.map (· - 1))++Sf2)) (fun k=>ls.length-k) 0 (Nat.zero_le _) ⟨rfl,rfl,rfl,rfl,lk rfl (congrArg (Value.int .i64) (show(B2.length:Int)+1=((B2.length+1:Nat):Int) by omega)),rfl,rfl,rfl,rfl,rfl,rfl,rfl,rfl,trivial⟩ (.eq (by rw[anf (x:=g.map (· - 1)) (y:=[])])) ?_
      clear hk
      rintro k hk
      refine W.seq<|W.seq<|W.region rfl<|qm rfl rfl rfl<|qm rfl rfl rfl ?_
      refine agW (dM rfl rfl) rfl ?_
      refine agW (fO rfl rfl rfl) rfl ?_
      refine pq ?_
      refine W.bC rfl (fun c99=>?_) (fun c99=>?_)
      ·have hkl:k<ls.length:=by omega
       obtain⟨y,rfl⟩:∃y,o=some y:=by
        cases o with
        | none=>have:=hrm.1;omega
        | some y=>exact⟨y,rfl⟩
       obtain⟨βr,tl⟩:=y
       obtain⟨cap5,he5⟩:=hrm
       cases he5
       have hr0:=YC (tl:=tl) (rs:=g.map (· - 1)) (p:=k) (by omega)
       have hcv:(al3 B2 (g.map (· - 1)) ls.length k)[k]? =some ((amh B2 k:Nat):Int):=by rw[amn hkl,if_neg (fun h=>absurd h.1 (Nat.lt_irrefl _))];rfl
       have hat:=ab4 hcv
       have apn:=am5 (B:=B2) (k:=k)
       have hsz:0+k*1<(uV (al3 B2 (g.map (· - 1)) ls.length k)).size:=by rw[qj,amm];omega
       refine W.sb (F':=(βd,.cells (uV (al3 B2 (g.map (· - 1)) ls.length k)) dL (0,0))::((βr,QK tl (g.map (· - 1)))::Sf2)) .refl ?_
       refine W.skip<|aA<|W.seq<|W.block<|W.seq<|W.region rfl<|qm rfl rfl rfl<|qm rfl rfl rfl ?_
       refine ag3 rfl ?_
       refine agX rfl ?_
       refine agW (IJ rfl rfl rfl) rfl ?_
       refine pq ?_
       refine W.bC rfl (fun aiL=>?_) (fun aiL=>?_)
       ·refine W.region rfl<|qm rfl rfl rfl<|qm rfl rfl rfl ?_
        refine ag3 rfl ?_
        refine agX rfl ?_
        refine ag1 rfl ?_
        refine ag3 rfl ?_
        refine Ops.yG ?_
        refine Ops.nil<|dI<|aA<|W.region rfl<|qm rfl rfl rfl ?_
        refine ag1 rfl ?_
        refine agb rfl rfl rfl<|pq ?_
        refine⟨rfl,k+1,hkl,by omega,⟨rfl,rfl,rfl,rfl,rfl,rfl,rfl,rfl,rfl,rfl,rfl,rfl,rfl,trivial⟩,.eq ?_⟩
        rw[Ux,ano hkl (by omega)];rfl
       ·refine W.skip<|dI<|aA<|W.region rfl<|qm rfl rfl rfl ?_
        refine ag1 rfl ?_
        refine agb rfl rfl rfl<|pq ?_
        refine⟨rfl,k+1,hkl,by omega,⟨rfl,rfl,rfl,rfl,rfl,rfl,rfl,rfl,rfl,rfl,rfl,rfl,rfl,trivial⟩,.eq ?_⟩
        rw[ang (by omega)];rfl
      ·refine W.exit<|bP<|bP<|gG<|dI<|aA<|W.region rfl<|qm rfl rfl rfl ?_
       refine ag1 rfl ?_
       refine agb rfl rfl rfl<|pq ?_
       obtain rfl:k=ls.length:=by omega
       rw[anm (y:=[])]
       rcases hc2 with⟨rfl,rfl,hwp,rfl,rfl⟩ | ⟨rfl,rfl,hpw,rfl,rfl⟩
       ·exact⟨rfl,(i+1,w2,[g.map (· - 1)],βd,_,Iu o (g.map (· - 1))),⟨hil,hnext.1 hwp,by simp,(fun s hs=>by rw[List.mem_singleton.1 hs];exact hxl),hrd⟩,by dsimp only;omega,⟨rfl,rfl,rfl,rfl,rfl,rfl,rfl,rfl,rfl,rfl,rfl,trivial⟩,.cons (by rw[List.append_nil];exact .refl)⟩
       ·obtain⟨hBn,hSn⟩:=hnext.2.1 (by omega)
        refine⟨rfl,(i+1,w2,B2++[g.map (· - 1)],βd,_,Sf2),⟨hil,hSn,by simp;omega,(fun s hs=>?_),?_⟩,by dsimp only;omega,⟨rfl,rfl,lk rfl (congrArg (Value.int .i64) (show((B2.length+1:Nat):Int)=((B2++[g.map (· - 1)]).length:Int) by simp)),rfl,rfl,rfl,rfl,rfl,rfl,rfl,rfl,trivial⟩,.cons (.left .refl hrd.1)⟩
        ·rcases List.mem_append.1 hs with hs | hs
         ·exact hBl s hs
         ·rw[List.mem_singleton.1 hs];exact hxl
        ·obtain⟨b0,r0,rfl⟩:=List.exists_cons_of_ne_nil hBn
         exact hSf
     ·refine W.skip<|dI<|aA<|W.region rfl<|qm rfl rfl rfl ?_
      refine ag1 rfl ?_
      refine agb rfl rfl rfl<|pq ?_
      rcases hc2 with⟨rfl,rfl,hwp,rfl,rfl⟩ | ⟨rfl,rfl,hpw,rfl,rfl⟩
      ·exact absurd rfl c93
      ·exact⟨rfl,(i+1,w2,B2,βd,vf2,Sf2),⟨hil,hnext.2.2 (by omega),by dsimp only;omega,hBl,hSf⟩,by dsimp only;omega,⟨rfl,rfl,rfl,rfl,rfl,rfl,rfl,rfl,rfl,rfl,rfl,trivial⟩,.cons (.left .refl hrd.1)⟩
  ·obtain rfl:i=us.length:=by omega
   have apo:(al9 (ps.length+1) ls.length).length=us.length:=by rw[al9,List.length_map];exact hul.symm
   have hbs:oZ ps ls rs=(w,B):=StS.all h4 hlo (by rw[apo];exact hSt)
   rw[hbs]at hsg
   dsimp only at hsg
   have hBn:B≠[]:=by have:=VN (ps:=ps) (ls:=ls) (rs:=rs);rw[hbs]at this;exact this
   refine W.exit<|bP<|bP<|gG<|aA<|W.seq<|W.seq<|W.region rfl<|qm rfl rfl rfl<|qm rfl rfl rfl ?_
   refine KU (nG rfl rfl rfl) (congrArg Value.bool (show decide ((oZ ps ls rs).1≠w)=false by rw[hbs];simp)) rfl wn rfl rfl ?_
   refine qm rfl rfl rfl ?_
   refine oq (aN rfl rfl) rfl (ak rfl rfl rfl) rfl rfl ?_
   refine oq (aN rfl rfl) rfl (ak rfl rfl rfl) rfl rfl ?_
   refine cp (g:=some _) (fun h' hE hL=>Iw _ h' (B.headD []) _ _ (hsg.ext hE) (hSf.2 _ (fun b o hb=>hL b o (.tail _ hb))) (by
    obtain⟨b0,r0,rfl⟩:=List.exists_cons_of_ne_nil hBn
    have:=hBl b0 (List.mem_cons_self ..)
    show b0.length≤100000
    omega)) ?_
   refine oq (xU rfl rfl) rfl (ak rfl rfl rfl) rfl rfl ?_
   refine agW (iH rfl rfl rfl) rfl ?_
   refine pq ?_
   refine W.bZ ?_
   refine W.skip<|aA<|W.seq<|W.seq<|W.region rfl<|agb rfl rfl rfl<|pq<|W.block ?_
   refine W.loop (σ:=Nat) (fun k=>k≤ls.length) (fun k=>[(20,I k),(14,.slice (some ⟨βc,0,none⟩) ls.length ls.length),(13,I B.length),(6,.slice a3 rs.length cap3),(5,.slice a2 ls.length cap2),(4,.slice a ps.length cap)])
    (fun _=>(βc,.cells (uV (al3 B [] ls.length 0)) dL (0,0))::Sf) (fun k=>ls.length-k) 0 (Nat.zero_le _) ⟨rfl,rfl,rfl,rfl,rfl,rfl,trivial⟩ .refl ?_
   rintro k hk
   refine W.seq<|W.seq<|W.region rfl<|qm rfl rfl rfl<|qm rfl rfl rfl ?_
   refine agW (dM rfl rfl) rfl ?_
   refine agW (fO rfl rfl rfl) rfl ?_
   refine pq ?_
   refine W.bC rfl (fun apq=>?_) (fun apq=>?_)
   ·have hkl:k<ls.length:=by omega
    have hcv:(al3 B [] ls.length 0)[k]? =some ((amh B k:Nat):Int):=by rw[amn hkl,if_neg (fun h=>absurd h.1 (Nat.not_lt_zero _))];rfl
    have hat:=ab4 hcv
    have apn:=am5 (B:=B) (k:=k)
    refine W.skip<|aA<|W.seq<|W.block<|W.seq<|W.region rfl<|agb rfl rfl rfl<|pq<|W.seq ?_
    refine W.cut [(21,I (al7 (amh B k) B.length)),(20,I k),(14,.slice (some ⟨βc,0,none⟩) ls.length ls.length),(13,I B.length),(6,.slice a3 rs.length cap3),(5,.slice a2 ls.length cap2),(4,.slice a ps.length cap)] ((βc,.cells (uV (al3 B [] ls.length 0)) dL (0,0))::Sf) ?_ ?_
    ·refine W.seq<|W.region rfl<|qm rfl rfl rfl<|qm rfl rfl rfl ?_
     refine ag3 rfl ?_
     refine agX rfl ?_
     refine agW (nD rfl rfl rfl) rfl ?_
     refine pq ?_
     refine W.bC rfl (fun apr=>?_) (fun apr=>?_)
     ·refine W.region rfl<|agb rfl rfl rfl<|Ops.nil ?_
      exact⟨rfl,rfl,⟨lk rfl (congrArg (Value.int .i64) (show(2:Int)=_ by rw[al7,if_neg (by omega),if_pos (by omega)])),rfl,rfl,rfl,rfl,rfl,rfl,trivial⟩,.refl⟩
     ·refine W.seq<|W.region rfl<|qm rfl rfl rfl<|qm rfl rfl rfl ?_
      refine ag3 rfl ?_
      refine agX rfl ?_
      refine qm rfl rfl rfl ?_
      refine agW (nD rfl rfl rfl) rfl ?_
      refine pq ?_
      refine W.bC rfl (fun c138=>?_) (fun c138=>?_)
      ·refine W.region rfl<|agb rfl rfl rfl<|Ops.nil ?_
       exact⟨rfl,rfl,⟨lk rfl (congrArg (Value.int .i64) (show(1:Int)=_ by rw[al7,if_neg (by omega),if_neg (by omega)])),rfl,rfl,rfl,rfl,rfl,rfl,trivial⟩,.refl⟩
      ·refine W.skip ?_
       exact⟨rfl,rfl,⟨lk rfl (congrArg (Value.int .i64) (show(3:Int)=_ by rw[al7,if_pos (by omega)])),rfl,rfl,rfl,rfl,rfl,rfl,trivial⟩,.refl⟩
    ·refine W.seq<|W.region rfl<|qm rfl rfl rfl<|qm rfl rfl rfl<|qm rfl rfl rfl<|qm rfl rfl rfl ?_
     refine cp (fun h' hE hL=>amZ _ h' ps ls rs k _ _ _ (hsl.ext hE) (amK.ext hE) (amX.ext hE)) ?_
     rw[show amz ps ls rs k=(al7 (amh B k) B.length,0) by rw[amz,if_neg (by rw[hE0];simp),if_neg (by unfold outs;omega),Int.toNat_natCast,hbs,an7 hBl hkl (by omega)]]
     refine qm rfl rfl rfl<|oq (bD rfl rfl rfl) rfl wn rfl rfl<|oq (bD rfl rfl rfl) rfl wn rfl rfl<|agb rfl rfl rfl<|agb rfl rfl rfl<|pq<|W.seq<|W.region rfl<|qm rfl rfl rfl ?_
     refine KU (nG rfl rfl rfl) (congrArg Value.bool (show decide ((0:Int)≠0)=false by decide)) rfl wn rfl rfl ?_
     refine qm rfl rfl rfl ?_
     refine oq (aN rfl rfl) rfl (ak rfl rfl rfl) rfl rfl ?_
     refine oq (aN rfl rfl) rfl (ak rfl rfl rfl) rfl rfl ?_
     refine KU (nG rfl rfl rfl) (congrArg Value.bool (show decide (al7 (amh B k) B.length≠al7 (amh B k) B.length)=false by simp)) rfl (ak rfl rfl rfl) rfl rfl ?_
     refine agW (iH rfl rfl rfl) rfl ?_
     refine pq ?_
     refine W.bZ ?_
     refine W.skip<|dI<|aA<|W.region rfl<|qm rfl rfl rfl ?_
     refine ag1 rfl ?_
     refine agb rfl rfl rfl<|pq ?_
     exact⟨rfl,k+1,hkl,by omega,⟨rfl,rfl,rfl,rfl,rfl,rfl,trivial⟩,.refl⟩
   ·refine W.exit<|bP<|bP<|gG<|aA<|W.seq<|W.region rfl ?_
    refine cp (fun h' hE hL=>VW _ h' hS hmb _ _ (hE.1 _ _ hgz)) ?_
    refine agb rfl rfl rfl<|pq<|W.ret ?_
    exact lvq rfl (hs:=.cons rfl hSf.1)
end Go.aS

/- SyrupShared's card. Conditions: as the card says; over the given program. -/
namespace Go.Proofs.YtkkdgffaohidnaaGreatDoor
open Go Go.aS
set_option maxRecDepth 100000
set_option maxHeartbeats 4000000
theorem amo:joinedFacts prog alz alM Rows.syrupSharedSpec Rows.syrupSharedRow=true:=by
 unfold joinedFacts
 repeat' with_reducible refine Bool.and_eq_true_iff.2 ⟨?_,?_⟩
 all_goals first
  | with_reducible exact aci
  | (with_reducible refine makeT ?_;kernel_rfl)
  | (with_reducible refine aeb ?_;kernel_rfl)
  | (as_aux_lemma=>kernel_rfl)
theorem al8:prog.funcNamed Rows.syrupSharedRow.func=some alz:=by kernel_rfl
theorem amx:prog.mainIs=some (true, "dbc29bbb9727fbebaf7429f7266f9d82b5a02ec0969210b724e1ed2dac66cc8d".toList):=ad9
theorem amy:true=Rows.syrupSharedRow.goesBy prog:=by kernel_rfl
theorem amq:true=prog.looks []:=by kernel_rfl
theorem amC:Rows.SyrupSharedSaid:=
 OpenClaim.holds_of_wide_leaving_time alz alM rfl rfl rfl rfl rfl rfl rfl ⟨rfl,rfl,rfl,rfl,rfl⟩ rfl rfl rfl rfl rfl al8 alY amo
  (of_decide_eq_true (by kernel_rfl)) (by unfold Func.isWrapper;first | (rw[if_pos (by decide+kernel)];kernel_rfl) | (rw[if_neg (by decide+kernel)];exact⟨rfl,rfl⟩))
  (
   fun os started H enc _ F=>ad7 (s:=Rows.syrupSharedSpec) os started H enc alY (by kernel_rfl) (by kernel_rfl) (by kernel_rfl) (by kernel_rfl) (by kernel_rfl) rfl (fun _=>rfl)
   (OB (enc:=enc) (C:=Tryz.checked) (os:=os) (X:=fun w _=>laidMetH prog J9 w) (laidWorld os) #[.slice none 0 0] 8 rfl (by kernel_rfl) (by kernel_rfl) (by kernel_rfl) (by kernel_rfl) (by kernel_rfl) (laidWorld_met os _))
   (fun main hS hmb h nums lv Eg zg hl hg z0=>amB main hS hmb h nums lv Eg zg hl hg z0) F)

theorem SyrupShared_card:Rows.SyrupSharedCardSaid:=
 VZ .later [] [.handle] true (true, "dbc29bbb9727fbebaf7429f7266f9d82b5a02ec0969210b724e1ed2dac66cc8d") true
  amC (fun _ h=>by cases h) (by kernel_rfl) (fun _ h=>by cases h) syrupShared_row_tie rfl ⟨rfl,rfl⟩ amx rfl
  (
   fun f fn hf hfn=>by
   obtain rfl:f=alz:=(Option.some.inj (al8.symm.trans hf)).symm
   obtain rfl:fn=alM:=(Option.some.inj (alY.symm.trans hfn)).symm
   exact⟨amq,fun j t ht=>by
    rw[show(alM).params= #[nS] by kernel_rfl]at ht
    have h3:t=nS:=by
     rcases j with _ | j
     ·simpa using ht.symm
     ·simp at ht
    subst h3
    exact(show prog.wantsStandIn nS=false by kernel_rfl)⟩)
  amy
#print axioms SyrupShared_card
end Go.Proofs.YtkkdgffaohidnaaGreatDoor
