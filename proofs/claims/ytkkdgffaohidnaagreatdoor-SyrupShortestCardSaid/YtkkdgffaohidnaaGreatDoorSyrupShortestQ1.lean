/- What is reached in so many steps, as the laws find it. Conditions: none; no program in sight. (And 17 texts more.) -/
import Derived.Test.YtkkdgffaohidnaaGreatDoorR10
import Derived.Test.YtkkdgffaohidnaaGreatDoorR13
import Derived.Test.YtkkdgffaohidnaaGreatDoorR11
set_option linter.unusedVariables false
set_option linter.unusedSimpArgs false
set_option linter.unusedSectionVars false

/- What is reached in so many steps, as the laws find it. Conditions: none; no program in sight. -/
namespace Go.aS
set_option linter.unusedVariables false
theorem YU{ps:List Pn}{q o:Nat}{v:List Nat}(hq:q<13)(h:qJ (dO ps 0) q v o):o<13:=by
 rcases List.eq_nil_or_concat v with rfl | ⟨r,p,rfl⟩
 ·have:q=o:=h
  omega
 ·rw[List.concat_eq_append]at h
  obtain⟨m,_,h6⟩:=lW.1 h
  exact F9 _ _ _ h6
end Go.aS

/- Operations that come up in any order and only add to what is owned. Conditions: none; over any program. -/
namespace Go.aS
abbrev Spc:=Nat×Nat×(Value→ah→Prop)
def waits(ops:Array Oper):Nat→Nat→Nat→Bool
 | 0,_,_=>false
 | n+1,k,b=>match ops[k]? with | some o=>o.after.any fun e=>iG e&&(Nat.beq e.on b|| waits ops n e.on b) | none=>false
structure Y4(ops:Array Oper)(listed:Nat)(B:List Nat):Prop where
 cl:Closed ops listed
 low:∀k o,ops[k]? =some o→∀e∈o.after,iG e=true→e.on<k
 or:∀k,k<ops.size→listed.testBit k=false→k∈B∨∀b∈B,waits ops 6 k b=true
 un:∀b∈B,b<ops.size∧listed.testBit b=false
 nd:B.Nodup

theorem Y4.some{ops:Array Oper}{listed:Nat}{B:List Nat}(h:Y4 ops listed B){b:Nat}(hb:b∈B):qx ops listed≠[]:=by
 have key:∀(n k:Nat),k<n→k<ops.size→listed.testBit k=false→∃i,Fq ops listed i=true:=by
  intro n
  induction n with
  | zero=>intro k hk;omega
  | succ n ih=>
   intro k hk hlt hl
   by_cases hr:Fq ops listed k=true
   ·exact⟨k,hr⟩
   ·simp only[Fq,Array.getElem?_eq_getElem hlt,hl,Bool.not_false,Bool.true_and,Array.all_eq_true_iff_forall_mem,Bool.or_eq_true,Bool.not_eq_true']at hr
    have:∃e∈(ops[k]).after,iG e=true∧listed.testBit e.on=false:=by
     refine Classical.byContradiction fun hn=>hr fun e he=>?_
     cases hbe:iG e with
     | false=>exact .inl rfl
     | true=>
      cases ht:listed.testBit e.on with
      | true=>exact .inr rfl
      | false=>exact absurd ⟨e,he,hbe,ht⟩ hn
    obtain⟨e,he,h1,h2⟩:=this
    have:=h.low k _ (Array.getElem?_eq_getElem hlt) e he h1
    exact ih e.on (by omega) (by omega) h2
 obtain⟨i,hi⟩:=key (b+1) b (by omega) (h.un b hb).1 (h.un b hb).2
 intro e
 have:=o8.2 hi
 rw[e]at this
 cases this

theorem Y4.step{ops:Array Oper}{listed j:Nat}{B1 B2:List Nat}(h:Y4 ops listed (B1++j::B2))(hj:Fq ops listed j=true):Y4 ops (listed||| 2 ^ j) (B1++B2):=by
 have hnd:j∉B1++B2:=by
  have:=(List.perm_middle (a:=j) (l₁:=B1) (l₂:=B2)).nodup_iff.1 h.nd
  exact(List.nodup_cons.1 this).1
 refine⟨h.cl.step hj,h.low,fun k hk hl=>?_,fun b hb=>?_,?_⟩
 ·rw[testBit_or,Bool.or_eq_false_iff]at hl
  have hne:j≠k:=by simpa using hl.2
  rcases h.or k hk hl.1 with h' | h'
  ·left
   rcases List.mem_append.1 h' with h' | h'
   ·exact List.mem_append_left _ h'
   ·rcases List.mem_cons.1 h' with h' | h'
    ·exact absurd h'.symm hne
    ·exact List.mem_append_right _ h'
  ·right
   intro b hb
   refine h' b ?_
   rcases List.mem_append.1 hb with hb | hb
   ·exact List.mem_append_left _ hb
   ·exact List.mem_append_right _ (List.mem_cons_of_mem _ hb)
 ·have hb':b∈B1++j::B2:=by
   rcases List.mem_append.1 hb with hb | hb
   ·exact List.mem_append_left _ hb
   ·exact List.mem_append_right _ (List.mem_cons_of_mem _ hb)
  refine⟨(h.un b hb').1,?_⟩
  rw[testBit_or,(h.un b hb').2,Bool.false_or,decide_eq_false_iff_not]
  rintro rfl
  exact hnd hb
 ·have:=(List.perm_middle (a:=j) (l₁:=B1) (l₂:=B2)).nodup_iff.1 h.nd
  exact(List.nodup_cons.1 this).2

def Adds(x:Cx)(ops:Array Oper)(ε:Ev)(s:Spc):Prop:=
 ∃o,ops[s.1]? =some o∧o.dst=some s.2.1∧d_ o.dst x.n=true∧(∀c,o.op≠ .defer c)∧o.guard=none∧∀e,Cons ε e→∀F,Dx x o e F fun v F'=>∃A Lp,Lp.Perm F'∧s.2.2 v A∧Lp=A++F

theorem Cons.back{ε:Ev}{d:Nat}{v:Value}{e:Operand→Value}(h:Cons (upd ε (some d) v) e)(hd:ε d=none):Cons ε e:=fun y u hy=>h y u (by
 cases y with
 | tmp t=>
  simp only[UK,upd]at hy⊢
  cases hb:Nat.beq t d with
  | true=>rw[Nat.eq_of_beq_eq_true hb,hd]at hy;cases hy
  | false=>exact hy
 | _=>exact hy)

section rules
variable{x:Cx}{Q:Post}{ρ:Env}{ds:List Deferred}{F:ah}{ops:Array Oper}{L:ah}{fuel listed:Nat}
theorem Adds.of{i d:Nat}{P:Value→ah→Prop}{op:Op}{ty:TypeId}{pos:String}{bK:Array Edge}(ho:cO ops.toList i=some ⟨some d,op,ty,pos,bK,none⟩)(hd:Nat.blt d x.n=true)(hn:cu op=true)(H:∀F,Ef x ρ ⟨some d,op,ty,pos,bK,none⟩ F fun v F'=>∃A,P v A∧F'=A++F):Adds x ops (look ρ) (i,d,P):=
 ⟨_,aU ho,rfl,hd,gI hn,rfl,fun e he F=>(H F e fun y v hy=>he y v (by rw[DC];exact hy)).mono fun v F' ⟨Lp,p,A,hv,e⟩=>⟨A,Lp,p,hv,e⟩⟩
theorem Adds.call{i d f:Nat}{P:Value→ah→Prop}{args:List Operand}{ts:Array TypeId}{vs:List Value}{ty:TypeId}{pos:String}{bK:Array Edge}(H:∀h',Ext x.h h'→dV x.P x.main f vs.toArray h' [] P)(ho:cO ops.toList i=some ⟨some d,.call ⟨.value (.func f),args.toArray,ts⟩,ty,pos,bK,none⟩:=by rfl)[FB x.P f](hv:evs ρ args=some vs:=by rfl)(hd:Nat.blt d x.n=true:=by rfl):Adds x ops (look ρ) (i,d,P):=
 .of ho hd rfl fun F=>lQ rfl hv (fun h' hE _=>H h' hE) fun v A' hv=>⟨A',hv,rfl⟩
end rules
end Go.aS
namespace Go.aS
section
variable{α:Type}{row:α→List Value}{w:Nat}[rw':Rw row w]
section
variable{x:Cx}{ρ:Env}{F:ah}{o:Oper}{R:Value→ah→Prop}
end
end
section
variable{x:Cx}{S:ah→Prop}{ρ:Env}{o:Oper}
end
end Go.aS
namespace Go.aS
section
variable{x:Cx}{Q:Post}{ρ:Env}{ds:List Deferred}{ops:Array Oper}{G:ah}{y₁ y₂ y₃ y₄ agp agq:Nat×Obj}{id n:Nat}
end
theorem agQ{α:Type}{l l':List α}(h:∀[DecidableEq α] (a:α),l.count a=l'.count a):l.Perm l':=by
 classical
 exact List.perm_iff_count.2 fun a=>h a
end Go.aS
namespace Go.aS
theorem Os.open{α:Type}{row:α→List Value}{w:Nat}[Rw row w]{E:TypeId}{a:Option Addr}{n cap:Nat}{l:List α}{A:ah}(h:Os E row (.slice a n cap) l A)(hne:0<l.length):∃β c J,a=some ⟨β,0,none⟩∧A=(β,.cells c E (0,0))::J∧n=l.length∧c.size=cap*w∧l.length≤cap∧Part c 0 (flat row l)∧Shut J:=by
 rcases h with⟨rfl,_,_⟩ | ⟨β,c,cp,J,hv,rfl,h1,h2,h3,h4⟩
 ·simp at hne
 ·injection hv with e1 e2 e3
  subst e1 e2 e3
  exact⟨β,c,J,rfl,rfl,rfl,h1,h2,h3,h4⟩
end Go.aS

/- Slices of slices; makeSlice. Conditions: none; over any program. -/
namespace Go.aS
structure Sv where
  a:Option Addr
  n:Nat
  cap:Nat
abbrev Sv.val(s:Sv):Value:=.slice s.a s.n s.cap
def ags(s:Sv):List Value:=[.slice s.a s.n s.cap]
instance:Rw ags 1:=⟨fun _=>rfl,fun _=>rfl⟩

section
variable{α:Type}{row:α→List Value}{w:Nat}[rw':Rw row w]{E:TypeId}
inductive UG(E:TypeId)(row:α→List Value)[Rw row w]:List Sv→List (List α)→ah→Prop
  | nil:UG E row [] [] []
  | cons {s:Sv} {l:List α} {A B:ah} {vs:List Sv} {ls:List (List α)}:Os E row s.val l A→UG E row vs ls B→UG E row (s::vs) (l::ls) (A++B)
theorem UG.len{vs:List Sv}{ls:List (List α)}{A:ah}(h:UG E row vs ls A):vs.length=ls.length:=by
  induction h with
  | nil=>rfl
  | cons _ _ ih=>simp[ih]
theorem UG.shut{vs:List Sv}{ls:List (List α)}{A:ah}(h:UG E row vs ls A):Shut A:=by
  induction h with
  | nil=>exact .nil
  | cons h _ ih=>exact h.shut.app ih
theorem UG.snoc{vs:List Sv}{ls:List (List α)}{A B:ah}{s:Sv}{l:List α}(h:UG E row vs ls A)(hs:Os E row s.val l B):UG E row (vs++[s]) (ls++[l]) (A++B):=by
  induction h with
  | nil=>have:=UG.cons hs .nil;simpa using this
  | cons h1 _ ih=>have:=UG.cons h1 ih;rw[←List.append_assoc]at this;exact this
theorem UG.sl{vs:List Sv}{ls:List (List α)}{A:ah}{h':Hp}(h:UG E row vs ls A)(hL:∀b o,(b,o)∈A→h' b=some o):∀{k:Nat} {s:Sv} {l:List α},vs[k]? =some s→ls[k]? =some l→Sl h' row s.val l:=by
  induction h with
  | nil=>intro k s l hs;simp at hs
  | cons h1 _ ih=>
    intro k s l hs hl
    rcases k with _ | k
    · simp at hs hl;subst hs hl
      exact h1.sl fun b o hb=>hL b o (List.mem_append_left _ hb)
    · simp at hs hl
      exact ih (fun b o hb=>hL b o (List.mem_append_right _ hb)) hs hl
theorem agG{x:Cx}{c:Code}{Q:Post}{ρ:Env}{ds:List Deferred}{A F:ah}{vs:List Sv}{ls:List (List α)}(hs:UG E row vs ls A)
    (H:∀h',Ext x.h h'→(∀(k:Nat) (s:Sv) (l:List α),vs[k]? =some s→ls[k]? =some l→Sl h' row s.val l∧Zs h' s.val)→W {x with h:=h'} c Q ρ ds F):W x c Q ρ ds (A++F):=by
  induction hs generalizing x with
  | nil=>exact H x.h ⟨fun _ _ q=>q,fun _ q=>q⟩ fun k s l hk=>by simp at hk
  | cons h1 h2 ih=>
    rw[List.append_assoc]
    refine JU h1 fun h' hE hsl hz=>ih (x:={x with h:=h'}) fun h'' hE' hall=>H h'' (hE.trans hE') fun k s l hk hl=>?_
    rcases k with _ | k
    · simp at hk hl;subst hk hl
      exact⟨hsl.ext hE',hz.ext hE'⟩
    · simp at hk hl
      exact hall k s l hk hl
theorem Sv.eta{v:Value}{l:List α}{A:ah}(h:Os E row v l A):∃s:Sv,v=s.val:=by
  obtain⟨a,cap,rfl⟩:=h.dA
  exact⟨⟨a,_,cap⟩,rfl⟩
end
/-! makeSlice -/
section
variable{x:Cx}{ρ:Env}{F:ah}{o:Oper}{R:Value→ah→Prop}
end
end Go.aS

/- Sets of qualities, as the laws keep them. Conditions: none; over the given program. -/
namespace Go.aS
set_option maxRecDepth 100000
set_option maxHeartbeats 4000000
abbrev V9(β:Nat):Value:=.slice (some ⟨β,0,none⟩) 13 13
abbrev bsO(f:Nat→Bool):Obj:=.cells (bA f) RS (0,0)
end Go.aS

/- SyrupLongest. Conditions: none; over the given program. -/
namespace Go.aS
set_option maxRecDepth 100000
set_option maxHeartbeats 4000000
theorem UH{ps:List Pn}{q:Int}(h:nV ps=0)(h0:0≤q)(h1:q≤12):kU ps [q]=0:=by
 have:¬outs q 0 12:=by unfold outs;omega
 simp[kU,h,this]
end Go.aS

/- What goes round for ever comes to a ring. Conditions: none; no program in sight. -/
namespace Go.aS
set_option linter.unusedVariables false
end Go.aS

/- All ways of so many steps; the first of them. Conditions: none; no program in sight. -/
namespace Go.aS
set_option linter.unusedVariables false
def af7(m:Nat):Nat→List (List Nat)
 | 0=>[[]]
 | k+1=>(af7 m k).flatMap fun l=>(List.range m).map fun y=>l++[y]
theorem afh{m:Nat}:∀{k:Nat} {v:List Nat},v∈af7 m k↔v.length=k∧∀y∈v,y<m
 | 0,v=>by
  simp only[af7,List.mem_singleton]
  constructor
  ·rintro rfl;exact⟨rfl,by simp⟩
  ·rintro⟨h,-⟩;exact List.length_eq_zero_iff.1 h
 | k+1,v=>by
  simp only[af7,List.mem_flatMap,List.mem_map,List.mem_range]
  constructor
  ·rintro⟨l,hl,y,hy,rfl⟩
   obtain⟨h1,h2⟩:=afh.1 hl
   refine⟨by simp[h1],fun z hz=>?_⟩
   rcases List.mem_append.1 hz with hz | hz
   ·exact h2 z hz
   ·rw[List.mem_singleton.1 hz];exact hy
  ·rintro⟨h1,h2⟩
   rcases List.eq_nil_or_concat v with rfl | ⟨r,p,rfl⟩
   ·cases h1
   ·rw[List.concat_eq_append]at*
    exact⟨r,afh.2 ⟨by simpa using h1,fun y hy=>h2 y (by simp[hy])⟩,p,h2 p (by simp),rfl⟩
theorem agv{m:Nat}(hm:m≤4):∀{k:Nat},(af7 m k).Pairwise fun a b=>yQ a<yQ b
 | 0=>by simp[af7]
 | k+1=>by
  rw[af7,List.pairwise_flatMap]
  refine⟨fun l hl=>?_,?_⟩
  ·rw[List.pairwise_map]
   refine List.pairwise_lt_range.imp fun{a b} h=>?_
   rw[oW,oW];omega
  ·refine(agv hm).imp fun{a b} h x hx y hy=>?_
   obtain⟨p,hp,rfl⟩:=List.mem_map.1 hx
   obtain⟨p',hp',rfl⟩:=List.mem_map.1 hy
   have:=List.mem_range.1 hp
   rw[oW,oW];omega
def afd(ps:List Pn):Nat→List Nat→Option Nat
 | q,[]=>some q
 | q,p::r=>if P9 ps q p then afd ps (gy ps p q) r else none
theorem agC{ps:List Pn}{q:Int}{i:Nat}(h:P9 ps q i=true):i<ps.length:=by
 rcases Nat.lt_or_ge i ps.length with h' | h'
 ·exact h'
 ·unfold P9 at h;rw[List.getElem?_eq_none h']at h;cases h
theorem agZ{ps:List Pn}(h4:ps.length≤4){q p o:Nat}:(p,o)∈dO ps 0 q↔P9 ps q p=true∧o=gy ps p q:=by
 rw[Um,Ak]
 constructor
 ·rintro⟨⟨-,h,-⟩,e⟩;exact⟨h,e⟩
 ·rintro⟨h,e⟩;exact⟨⟨by have:=agC h;omega,h,by simp⟩,e⟩
theorem afv{ps:List Pn}(h4:ps.length≤4):∀{v:List Nat} {q e:Nat},afd ps q v=some e↔qJ (dO ps 0) q v e
 | [],q,e=>by simp[afd,qJ]
 | p::r,q,e=>by
  simp only[afd,qJ,agZ h4]
  constructor
  ·intro h
   split at h
   ·rename_i ht
    exact⟨_,⟨ht,rfl⟩,(afv h4).1 h⟩
   ·cases h
  ·rintro⟨o,⟨h1,rfl⟩,h2⟩
   rw[if_pos h1];exact(afv h4).2 h2
theorem agw{ps:List Pn}:∀{v:List Nat} {q e:Nat},afd ps q v=some e→∀y∈v,y<ps.length
 | [],q,e,_=>by simp
 | p::r,q,e,h=>by
  simp only[afd]at h
  split at h
  ·rename_i ht
   intro y hy
   rcases List.mem_cons.1 hy with rfl | hy
   ·exact agC ht
   ·exact agw h y hy
  ·cases h
def afw(ps:List Pn)(q n:Nat):List (List Nat):=(af7 ps.length n).filter fun v=>(afd ps q v).isSome
theorem agH{ps:List Pn}(h4:ps.length≤4){q n:Nat}:(afw ps q n).Pairwise fun a b=>yQ a<yQ b:=(agv h4).filter _
theorem afO{ps:List Pn}{q n:Nat}{v:List Nat}:v∈afw ps q n↔v.length=n∧∃e,afd ps q v=some e:=by
 rw[afw,List.mem_filter,afh,Option.isSome_iff_exists]
 constructor
 ·rintro⟨⟨h1,-⟩,h⟩;exact⟨h1,h⟩
 ·rintro⟨h1,e,h⟩;exact⟨⟨h1,agw h⟩,e,h⟩
theorem agR{P:List Nat→Bool}{l:List (List Nat)}(hs:l.Pairwise fun a b=>yQ a<yQ b){i:Nat}{v w:List Nat}(hv:l[i]? =some v)(hno:∀u∈l.take i,P u=false)(hw:w∈l)(hP:P w=true):yQ v≤yQ w:=by
 obtain⟨j,hj⟩:=List.getElem?_of_mem hw
 obtain⟨hi,rfl⟩:=List.getElem?_eq_some_iff.1 hv
 obtain⟨hj',rfl⟩:=List.getElem?_eq_some_iff.1 hj
 rcases Nat.lt_trichotomy j i with h | rfl | h
 ·have:=hno l[j] (List.mem_take_iff_getElem.2 ⟨j,by omega,rfl⟩)
  rw[hP]at this;cases this
 ·exact Nat.le_refl _
 ·exact Nat.le_of_lt (List.pairwise_iff_getElem.1 hs i j hi hj' h)
theorem agI{ps:List Pn}(h4:ps.length≤4){T:Nat→Bool}{lo q n i:Nat}(hq:q<13)(hlo:lo≤1)(hn:lo≤n){v:List Nat}{e:Nat}(hv:(afw ps q n)[i]? =some v)(hve:afd ps q v=some e)(hT:T e=true)
  (hno:∀u∈(afw ps q n).take i,(match afd ps q u with | some o=>T o | none=>false)=false):
  ∃w,(Ah (dO ps 0) q).find? (fun w=>decide (lo≤w.1.length)&&T w.2)=some w∧(n≤w.1.length→w.1=v):=by
 obtain⟨met,H⟩:=aee afX (q:=q) (g:=dO ps 0) F9
 have hvl:v.length=n:=(afO.1 (List.mem_of_getElem? hv)).1
 have hgo:=(afv h4).1 hve
 obtain⟨w,hw,h1,h2,h3⟩:=H.all v e hgo
 have hPw:(fun w:Wy=>decide (lo≤w.1.length)&&T w.2) w=true:=by
  simp only[Bool.and_eq_true,decide_eq_true_eq]
  refine⟨?_,by rw[h1];exact hT⟩
  rcases Nat.eq_zero_or_pos lo with h0 | h0
  ·omega
  ·have:w.1≠[]:=h3 fun e=>by rw[e]at hvl;simp at hvl;omega
   have:=List.length_pos_iff.2 this;omega
 obtain⟨w',hw'⟩:=Option.isSome_iff_exists.1 (List.find?_isSome (p:=fun w:Wy=>decide (lo≤w.1.length)&&T w.2).2 ⟨w,hw,hPw⟩)
 refine⟨w',hw',fun hnl=>?_⟩
 obtain⟨hm',hP',hmin⟩:=aek (by simpa using H.srt) hw'
 have hle:yQ w'.1≤yQ v:=Nat.le_trans (hmin w hw hPw) h2
 have hgo':qJ (dO ps 0) q w'.1 w'.2:=H.path w' (by simpa using hm')
 have hlow':=aa5 afX hgo'
 have hlow:=aa5 afX hgo
 have hlen:w'.1.length=n:=by
  rcases Nat.lt_or_ge v.length w'.1.length with h | h
  ·have:=ae0 hlow h;omega
  ·omega
 simp only[Bool.and_eq_true,decide_eq_true_eq]at hP'
 have hf':=(afv h4).2 hgo'
 have:=agR (P:=fun u=>match afd ps q u with | some o=>T o | none=>false) (agH h4) hv hno (afO.2 ⟨hlen,_,hf'⟩) (by simp only[hf'];exact hP'.2)
 exact aeZ hlow' hlow (by omega)
end Go.aS

/- All lists of so many numbers, as a program makes them; all ascending ones. Conditions: none; no program in sight. -/
namespace Go.aS
set_option linter.unusedVariables false
def af9(g:List Int)(y:Nat):List (List Int):=(List.range y).map fun(y:Nat)=>g++[(y:Int)]
def afb(m:Nat)(H:List (List Int))(x:Nat):List (List Int):=(H.take x).flatMap fun g=>af9 g m
def aff(m:Nat):Nat→List (List Int)
 | 0=>[[]]
 | k+1=>afb m (aff m k) (aff m k).length
theorem agJ{g:List Int}{y:Nat}:af9 g (y+1)=af9 g y++[g++[(y:Int)]]:=by simp[af9,List.range_succ]
theorem agx{g:List Int}{y:Nat}:(af9 g y).length=y:=by simp[af9]
theorem afY{m x:Nat}{H:List (List Int)}{g:List Int}(h:H[x]? =some g):afb m H (x+1)=afb m H x++af9 g m:=by
 rw[afb,List.take_add_one,h,List.flatMap_append];simp[afb]
theorem afx{m:Nat}{H:List (List Int)}:∀{x:Nat},(afb m H x).length≤m*x
 | 0=>by simp[afb]
 | x+1=>by
  rcases Nat.lt_or_ge x H.length with h | h
  ·rw[afY (List.getElem?_eq_getElem h),List.length_append,agx,Nat.mul_succ]
   have:=afx (m:=m) (H:=H) (x:=x);omega
  ·have:afb m H (x+1)=afb m H x:=by rw[afb,afb,List.take_of_length_le h,List.take_of_length_le (by omega)]
   rw[this,Nat.mul_succ]
   have:=afx (m:=m) (H:=H) (x:=x);omega
theorem afL{m:Nat}:∀{k:Nat},aff m k=(af7 m k).map zs
 | 0=>rfl
 | k+1=>by
  rw[aff,afb,List.take_length,afL,af7,List.flatMap_map,List.map_flatMap]
  refine congrArg (fun f=>List.flatMap f _) (funext fun l=>?_)
  rw[af9,List.map_map]
  exact List.map_congr_left fun y _=>by simp[zs]
theorem agD{m:Nat}:∀{k:Nat},(aff m k).length≤m ^ k
 | 0=>by simp[aff]
 | k+1=>by
  rw[aff,Nat.pow_succ,Nat.mul_comm]
  exact Nat.le_trans afx (Nat.mul_le_mul_left m agD)
theorem agc{m k:Nat}(hm:m≤4)(hk:k≤5):(aff m k).length≤1024:=
 Nat.le_trans agD (Nat.le_trans (Nat.pow_le_pow_left hm k) (Nat.le_trans (Nat.pow_le_pow_right (by omega) hk) (by decide)))
theorem agE{m:Nat}:∀{k:Nat} {g:List Int},g∈aff m k→g.length=k:=by
 intro k g h
 rw[afL]at h
 obtain⟨l,hl,rfl⟩:=List.mem_map.1 h
 rw[kT];exact(afh.1 hl).1
end Go.aS

/- All lists of so many numbers. Conditions: none; over the given program. -/
namespace Go.aS
set_option maxRecDepth 100000
set_option maxHeartbeats 4000000
theorem agz(main:Side)(h:Hp)(n k:Nat)(hn:n≤4)(hk:k≤5):dV prog main adU #[I n,I k] h [] (fun v A=>∃O us B,Os nS ags v us O∧UG dL fH us (aff n k) B∧Sb (O++B) A):=by
 refine dV.aG aeX rfl (by show 2≤40;decide) [(0,I n),(1,I k)] ⟨rfl,rfl,trivial⟩ ?_
 refine W.seq<|W.region rfl<|agb rfl rfl rfl<|pq<|W.seq<|W.region rfl ?_
 refine Ops.NK (cs:= #[.slice none 0 0]) (fun Oj=>?_) rfl
 refine agb rfl rfl rfl<|pq<|W.seq<|W.seq<|W.region rfl<|agb rfl rfl rfl<|pq<|W.block ?_
 have hO0:Os nS ags (.slice (some ⟨Oj,0,none⟩) 1 1) [(⟨none,0,0⟩:Sv)] [(Oj,.cells #[.slice none 0 0] nS (0,0))]:=.inr ⟨Oj,_,1,[],rfl,rfl,rfl,Nat.le_refl _,Part.all _,.nil⟩
 have hB0:UG dL fH [(⟨none,0,0⟩:Sv)] (aff n 0) []:=by
  have:=UG.cons (E:=dL) (row:=fH) (s:=(⟨none,0,0⟩:Sv)) (l:=[]) (.nil .nil) .nil
  exact this
 refine W.loop (σ:=Nat×List Sv×Option Addr×Nat×ah×ah) (fun q=>q.1≤k∧Os nS ags (.slice q.2.2.1 q.2.1.length q.2.2.2.1) q.2.1 q.2.2.2.2.1∧UG dL fH q.2.1 (aff n q.1) q.2.2.2.2.2) (fun q=>[(6,I q.1),(5,.slice q.2.2.1 q.2.1.length q.2.2.2.1),(0,I n),(1,I k)]) (fun q=>q.2.2.2.2.1++q.2.2.2.2.2) (fun q=>k-q.1) (0,[⟨none,0,0⟩],some ⟨Oj,0,none⟩,1,[(Oj,.cells #[.slice none 0 0] nS (0,0))],[]) ⟨Nat.zero_le _,hO0,hB0⟩ ⟨rfl,rfl,rfl,rfl,trivial⟩ .refl ?_
 rintro⟨i,us,sa,sc,O,B⟩ ⟨hi,hO,hB⟩
 dsimp only at*
 refine W.seq<|W.seq<|W.region rfl<|qm rfl rfl rfl<|qm rfl rfl rfl ?_
 refine agW (fO rfl rfl rfl) rfl ?_
 refine pq ?_
 refine W.bC rfl (fun c13=>?_) (fun c13=>?_)
 ·have hi1:i<k:=by omega
  have hHl:=agc (m:=n) (k:=i) hn (by omega)
  have hul:=hB.len
  have hat:∀g∈aff n i,g.length=i:=fun g=>agE
  have hnx:aff n (i+1)=afb n (aff n i) (aff n i).length:=rfl
  generalize aff n i=H at*
  refine W.skip<|aA<|W.seq<|W.block<|W.seq<|W.region rfl<|agb rfl rfl rfl<|pq<|W.seq ?_
  refine W.seq<|W.region rfl<|agb rfl rfl rfl<|pq<|W.block ?_
  refine W.loop (σ:=Nat×List Sv×Option Addr×Nat×ah×ah) (fun q=>q.1≤us.length∧Os nS ags (.slice q.2.2.1 q.2.1.length q.2.2.2.1) q.2.1 q.2.2.2.2.1∧UG dL fH q.2.1 (afb n H q.1) q.2.2.2.2.2) (fun q=>[(8,I q.1),(7,.slice q.2.2.1 q.2.1.length q.2.2.2.1),(6,I i),(5,.slice sa us.length sc),(0,I n),(1,I k)]) (fun q=>(O++B)++(q.2.2.2.2.1++q.2.2.2.2.2)) (fun q=>us.length-q.1) (0,[],none,0,[],[]) ⟨Nat.zero_le _,.nil .nil,.nil⟩ ⟨rfl,rfl,rfl,rfl,rfl,rfl,trivial⟩ (by simp only[List.append_nil];exact .refl) ?_
  rintro⟨x,ns,na,nc,N,C⟩ ⟨hx,hN,hC⟩
  dsimp only at*
  refine W.seq<|W.seq<|W.region rfl<|qm rfl rfl rfl<|qm rfl rfl rfl ?_
  refine agW (dM rfl rfl) rfl ?_
  refine agW (fO rfl rfl rfl) rfl ?_
  refine pq ?_
  refine W.bC rfl (fun c19=>?_) (fun c19=>?_)
  ·have hx1:x<us.length:=by omega
   obtain⟨g,hg,-⟩:=has (show x<H.length by omega)
   obtain⟨s,hs0,-⟩:=has hx1
   have hgl:g.length=i:=hat g (List.mem_of_getElem? hg)
   have hss:=afY (m:=n) hg
   have hsl:=afx (m:=n) (H:=H) (x:=x)
   have hsl2:n*x≤4*1024:=Nat.mul_le_mul hn (by omega)
   obtain⟨βo,co',Jo,hsa,hOe,-,-,-,hPo,-⟩:=hO.open (by omega)
   subst hsa
   have hcell:co'[0+x*1+0]? =some (.slice s.a s.n s.cap):=hPo.Bo hs0 0 (by decide)
   refine W.skip<|aA<|W.seq<|W.block<|W.seq<|W.region rfl<|agb rfl rfl rfl<|pq<|W.block ?_
   refine W.loop (σ:=Nat×List Sv×Option Addr×Nat×ah×ah) (fun q=>q.1≤n∧Os nS ags (.slice q.2.2.1 q.2.1.length q.2.2.2.1) q.2.1 q.2.2.2.2.1∧UG dL fH q.2.1 (afb n H x++af9 g q.1) q.2.2.2.2.2) (fun q=>[(9,I q.1),(8,I x),(7,.slice q.2.2.1 q.2.1.length q.2.2.2.1),(6,I i),(5,.slice (some ⟨βo,0,none⟩) us.length sc),(0,I n),(1,I k)]) (fun q=>(O++B)++(q.2.2.2.2.1++q.2.2.2.2.2)) (fun q=>n-q.1) (0,ns,na,nc,N,C) ⟨Nat.zero_le _,hN,by simpa[af9]using hC⟩ ⟨rfl,rfl,rfl,rfl,rfl,rfl,rfl,trivial⟩ .refl ?_
   clear hN hC
   rintro⟨y,ns,na,nc,N,C⟩ ⟨hy,hN,hC⟩
   dsimp only at*
   refine W.seq<|W.seq<|W.region rfl<|qm rfl rfl rfl<|qm rfl rfl rfl ?_
   refine agW (fO rfl rfl rfl) rfl ?_
   refine pq ?_
   refine W.bC rfl (fun c24=>?_) (fun c24=>?_)
   ·have hy1:y<n:=by omega
    have hnl:ns.length≤4*1024+4:=by
     rw[hC.len,List.length_append,agx];omega
    refine W.skip<|aA<|W.seq<|W.block<|W.region rfl<|qm rfl rfl rfl<|qm rfl rfl rfl<|qm rfl rfl rfl ?_
    refine ag3 rfl ?_
    refine agW (iQ rfl rfl (.inr (fun _ e=>by subst e;exact List.mem_append_left _ (List.mem_append_left _ (by rw[hOe];exact .head _)))) hcell) rfl ?_
    refine c0 (fun h' hE hL=>af0 _ h' g s.val (hB.sl (fun b o hb=>hL b o (List.mem_append_left _ (List.mem_append_right _ hb))) hs0 hg) (by omega)) (fun v A' hv=>?_)
    obtain⟨S,hS,hsb⟩:=hv
    refine Ops.sb (hsb.app .refl) ?_
    refine qm rfl rfl rfl ?_
    refine Ops.NK (cs:= #[I y]) (fun ahd=>?_) rfl
    refine oe rfl wn rfl rfl (iW (row:=fH) (l':=[(y:Int)]) rfl rfl rfl hS (.tail .head) (fun h2 _ hl=>Sl.mk (hl ahd _ (.head _)) rfl (Part.all [I y])) (by simp;omega) (by decide) rfl (fun v2 S2 hS2=>?_))
    obtain⟨s2,rfl⟩:=Sv.eta hS2
    refine Ops.NK (cs:= #[.slice s2.a s2.n s2.cap]) (fun afr=>?_) rfl
    refine oe rfl wn rfl rfl (iW (row:=ags) (l':=[s2]) rfl rfl rfl hN (.tail (.tail (.app (.app .head)))) (fun h2 _ hl=>Sl.mk (hl afr _ (.head _)) rfl (Part.all (ags s2))) (by simp;omega) (by decide) rfl (fun v3 N3 hN3=>?_))
    obtain⟨na3,nc3,rfl⟩:=hN3.dA
    refine agb rfl rfl rfl<|Ops.nil<|dI<|aA<|W.region rfl<|qm rfl rfl rfl ?_
    refine ag1 rfl ?_
    refine agb rfl rfl rfl<|pq ?_
    refine⟨rfl,(y+1,ns++[s2],na3,nc3,N3,C++S2),⟨hy1,hN3,by dsimp only;rw[agJ,←List.append_assoc];exact hC.snoc hS2⟩,by dsimp only;omega,⟨rfl,rfl,rfl,rfl,rfl,rfl,rfl,trivial⟩,?_⟩
    dsimp only
    show Sb _ ((afr,.cells #[.slice s2.a s2.n s2.cap] nS (0,0))::(ahd,.cells #[I y] dL (0,0))::_)
    refine⟨[(afr,.cells #[.slice s2.a s2.n s2.cap] nS (0,0)),(ahd,.cells #[I y] dL (0,0))],agQ fun y=>?_,.cons rfl (.cons rfl .nil)⟩
    simp only[List.count_append,List.count_cons,List.count_nil];omega
   ·refine W.exit<|bP<|bP<|gG<|dI<|aA<|W.region rfl<|qm rfl rfl rfl ?_
    refine ag1 rfl ?_
    refine agb rfl rfl rfl<|pq ?_
    obtain rfl:y=n:=by omega
    exact⟨rfl,(x+1,ns,na,nc,N,C),⟨hx1,hN,by dsimp only;rw[hss];exact hC⟩,by dsimp only;omega,⟨rfl,rfl,rfl,rfl,rfl,rfl,trivial⟩,.refl⟩
  ·refine W.exit<|bP<|bP<|gG<|aA<|W.region rfl<|qm rfl rfl rfl<|agb rfl rfl rfl<|Ops.nil<|dI ?_
   refine aA<|W.region rfl<|qm rfl rfl rfl ?_
   refine ag1 rfl ?_
   refine agb rfl rfl rfl<|pq ?_
   obtain rfl:x=us.length:=by omega
   exact⟨rfl,(i+1,ns,na,nc,N,C),⟨hi1,hN,by dsimp only;rw[hnx,←hul];exact hC⟩,by dsimp only;omega,⟨rfl,rfl,rfl,rfl,trivial⟩,.left .refl (hO.shut.app hB.shut)⟩
 ·refine W.exit<|bP<|bP<|gG<|aA<|W.seq<|W.region rfl<|qm rfl rfl rfl<|agb rfl rfl rfl<|Ops.nil ?_
  refine aA<|W.ret ?_
  obtain rfl:i=k:=by omega
  exact mg (vs:=[_]) ⟨O,us,B,hO,hB,.refl⟩
end Go.aS

/- Ways, as the laws make them. Conditions: none; over the given program. -/
namespace Go.aS
set_option maxRecDepth 100000
set_option maxHeartbeats 4000000
def afR(ps:List Pn)(q:Nat)(w:List Nat):Value:=match afd ps q w with
 | some e=>.tuple #[I e,.bool true]
 | none=>.tuple #[I 0,.bool false]
theorem afU{ps:List Pn}{q:Int}{p:Nat}(h:ps.length≤p):P9 ps q p=false:=by
 unfold P9;rw[List.getElem?_eq_none h]
theorem agK{ps:List Pn}{q:Int}{p:Nat}{x:Pn}(h:ps[p]? =some x):P9 ps q p=(decide (x.lo≤q)&&decide (q≤x.hi)):=by
 unfold P9;rw[h];rfl
theorem afB(main:Side)(h:Hp)(ps:List Pn)(vp vw:Value)(q:Nat)(w:List Nat)(hf:Sl h Pn.row vp ps)(hok:iP ps)(hq:q<13)(hw:Sl h fH vw (zs w))(hn:w.length≤100):Pu prog main adJ #[vp,I q,vw] h (afR ps q w):=by
 obtain⟨a,cap,rfl⟩:=hf.dA
 obtain⟨a2,cap2,rfl⟩:=hw.dA
 have h4:=hok.len
 refine dV.aG aeW rfl (by show 3≤63;decide) [(0,.slice a ps.length cap),(1,I q),(2,.slice a2 (zs w).length cap2)] ⟨rfl,rfl,rfl,trivial⟩ ?_
 rw[kT]at hw⊢
 refine W.seq<|W.region rfl<|agb rfl rfl rfl<|agb rfl rfl rfl<|pq<|W.seq<|W.seq<|W.region rfl<|agb rfl rfl rfl ?_
 refine pq<|W.block ?_
 refine W.loop (σ:=Nat×Nat) (fun s=>s.1≤w.length∧s.2<13∧afd ps q w=afd ps s.2 (w.drop s.1)) (fun s=>[(8,I s.1),(1,I s.2),(0,.slice a ps.length cap),(2,.slice a2 w.length cap2)]) (fun _=>[]) (fun s=>w.length-s.1) (0,q) ⟨Nat.zero_le _,hq,rfl⟩ ⟨rfl,rfl,rfl,rfl,trivial⟩ .refl ?_
 rintro⟨i,r⟩ ⟨hi,hr,hfo⟩
 dsimp only at*
 refine W.seq<|W.seq<|W.region rfl<|qm rfl rfl rfl<|qm rfl rfl rfl ?_
 refine agW (dM rfl rfl) rfl ?_
 refine agW (fO rfl rfl rfl) rfl ?_
 refine pq ?_
 refine W.bC rfl (fun c12=>?_) (fun c12=>?_)
 ·have hil:i<w.length:=by omega
  obtain⟨p,hp,hdr⟩:=has hil
  rw[hdr,afd]at hfo
  obtain⟨b2,off2,c2,E2,fz2,hv2,hb2,-,-,hz2⟩:=hw.at (show(zs w)[i]? =some (p:Int) by rw[zs,List.getElem?_map,hp];rfl)
  cases hv2
  have hc2:c2[off2+i*1]? =some (I p):=hz2 0 (by decide)
  refine W.skip<|aA<|W.seq<|W.block<|W.seq<|W.seq<|W.region rfl<|qm rfl rfl rfl<|qm rfl rfl rfl ?_
  refine ag3 rfl ?_
  refine agX rfl ?_
  refine agW (fO rfl rfl rfl) rfl ?_
  refine qm rfl rfl rfl ?_
  refine Ops.ask (fun aiz=>?_) (fun aiz=>?_)
  ·refine Ops.no ?_
   refine Ops.no ?_
   refine Ops.no ?_
   refine Ops.no ?_
   refine Ops.no ?_
   refine Ops.no ?_
   refine Ops.no ?_
   refine agW (dG rfl rfl rfl) rfl ?_
   refine qm rfl rfl rfl ?_
   refine Ops.no ?_
   refine Ops.no ?_
   refine Ops.no ?_
   refine Ops.no ?_
   refine Ops.no ?_
   refine Ops.no ?_
   refine Ops.no ?_
   refine Ops.no ?_
   refine Ops.no ?_
   refine Ops.no ?_
   refine agW (dG rfl rfl rfl) rfl ?_
   refine qm rfl rfl rfl ?_
   refine Ops.no ?_
   refine Ops.no ?_
   refine Ops.no ?_
   refine Ops.no ?_
   refine Ops.no ?_
   refine Ops.no ?_
   refine Ops.no ?_
   refine Ops.no ?_
   refine Ops.no ?_
   refine Ops.no ?_
   refine agW (dG rfl rfl rfl) rfl ?_
   refine pq ?_
   refine W.dW ?_
   refine W.seq<|W.region rfl<|agb rfl rfl rfl<|agb rfl rfl rfl<|pq<|W.ret<|aY<|cZ<|aY ?_
   refine aY<|cZ<|aY ?_
   have ht:P9 ps r p=false:=by
    first | (exfalso;omega) | exact afU (by omega) | (rw[ht0];simp only[Bool.and_eq_false_iff,decide_eq_false_iff_not];omega)
   refine uZ ?_
   rw[afR,hfo,ht];rfl
  ·refine oq (aN rfl rfl) rfl (ak rfl rfl rfl) rfl rfl ?_
   refine oq (aN rfl rfl) rfl (ak rfl rfl rfl) rfl rfl ?_
   first | refine oq (G_ rfl rfl rfl) rfl (ak rfl rfl rfl) rfl rfl ?_ | refine oq (o_ rfl rfl rfl) rfl (ak rfl rfl rfl) rfl rfl ?_
   refine oq (iQ rfl rfl) rfl (ak rfl rfl rfl) rfl rfl ?_
   refine oq (aN rfl rfl) rfl (ak rfl rfl rfl) rfl rfl ?_
   refine oq (dM rfl rfl) rfl (ak rfl rfl rfl) rfl rfl ?_
   refine oq (IJ rfl rfl rfl) rfl (ak rfl rfl rfl) rfl rfl ?_
   refine agW (iH rfl rfl rfl) rfl ?_
   refine qm rfl rfl rfl ?_
   refine Ops.ask (fun ahC=>?_) (fun ahC=>?_)
   ·refine Ops.no ?_
    refine Ops.no ?_
    refine Ops.no ?_
    refine Ops.no ?_
    refine Ops.no ?_
    refine Ops.no ?_
    refine Ops.no ?_
    refine Ops.no ?_
    refine Ops.no ?_
    refine Ops.no ?_
    refine agW (dG rfl rfl rfl) rfl ?_
    refine qm rfl rfl rfl ?_
    refine Ops.no ?_
    refine Ops.no ?_
    refine Ops.no ?_
    refine Ops.no ?_
    refine Ops.no ?_
    refine Ops.no ?_
    refine Ops.no ?_
    refine Ops.no ?_
    refine Ops.no ?_
    refine Ops.no ?_
    refine agW (dG rfl rfl rfl) rfl ?_
    refine pq ?_
    refine W.dW ?_
    refine W.seq<|W.region rfl<|agb rfl rfl rfl<|agb rfl rfl rfl<|pq<|W.ret<|aY<|cZ<|aY ?_
    refine aY<|cZ<|aY ?_
    have ht:P9 ps r p=false:=by
     first | (exfalso;omega) | exact afU (by omega) | (rw[ht0];simp only[Bool.and_eq_false_iff,decide_eq_false_iff_not];omega)
    refine uZ ?_
    rw[afR,hfo,ht];rfl
   ·have hpl:p<ps.length:=by omega
    obtain⟨x,hx,-⟩:=has hpl
    have hxk:=hok.pan x (List.mem_of_getElem? hx)
    obtain⟨b,off,c,E,fz,hv,hb,hxx,hyy,hz⟩:=hf.at hx
    cases hv
    have hx':c.extract (off+p*3) (off+p*3+3)= #[I x.lo,I x.hi,I x.sh]:=hxx
    have h0:c[off+p*3+0]? =some (I x.lo):=hz 0 (by decide)
    have h1:c[off+p*3+1]? =some (I x.hi):=hz 1 (by decide)
    have ht0:=agK (q:=r) hx
    refine oq (aN rfl rfl) rfl (ak rfl rfl rfl) rfl rfl ?_
    refine oq (aN rfl rfl) rfl (ak rfl rfl rfl) rfl rfl ?_
    refine oq (aN rfl rfl) rfl (ak rfl rfl rfl) rfl rfl ?_
    refine oq (aN rfl rfl) rfl (ak rfl rfl rfl) rfl rfl ?_
    first | refine oq (G_ rfl rfl rfl) rfl (ak rfl rfl rfl) rfl rfl ?_ | refine oq (o_ rfl rfl rfl) rfl (ak rfl rfl rfl) rfl rfl ?_
    refine oq (iQ rfl rfl) rfl (ak rfl rfl rfl) rfl rfl ?_
    first | refine oq (G_ rfl rfl rfl) rfl (ak rfl rfl rfl) rfl rfl ?_ | refine oq (o_ rfl rfl rfl) rfl (ak rfl rfl rfl) rfl rfl ?_
    refine oq (ay rfl rfl) rfl (ak rfl rfl rfl) rfl rfl ?_
    refine oq (iQ rfl rfl) rfl (ak rfl rfl rfl) rfl rfl ?_
    refine oq (fO rfl rfl rfl) rfl (ak rfl rfl rfl) rfl rfl ?_
    refine agW (iH rfl rfl rfl) rfl ?_
    refine qm rfl rfl rfl ?_
    refine Ops.ask (fun ahD=>?_) (fun ahD=>?_)
    ·refine Ops.no ?_
     refine Ops.no ?_
     refine Ops.no ?_
     refine Ops.no ?_
     refine Ops.no ?_
     refine Ops.no ?_
     refine Ops.no ?_
     refine Ops.no ?_
     refine Ops.no ?_
     refine Ops.no ?_
     refine agW (dG rfl rfl rfl) rfl ?_
     refine pq ?_
     refine W.dW ?_
     refine W.seq<|W.region rfl<|agb rfl rfl rfl<|agb rfl rfl rfl<|pq<|W.ret<|aY<|cZ<|aY ?_
     refine aY<|cZ<|aY ?_
     have ht:P9 ps r p=false:=by
      first | (exfalso;omega) | exact afU (by omega) | (rw[ht0];simp only[Bool.and_eq_false_iff,decide_eq_false_iff_not];omega)
     refine uZ ?_
     rw[afR,hfo,ht];rfl
    ·refine oq (aN rfl rfl) rfl (ak rfl rfl rfl) rfl rfl ?_
     refine oq (aN rfl rfl) rfl (ak rfl rfl rfl) rfl rfl ?_
     refine oq (aN rfl rfl) rfl (ak rfl rfl rfl) rfl rfl ?_
     refine oq (aN rfl rfl) rfl (ak rfl rfl rfl) rfl rfl ?_
     first | refine oq (G_ rfl rfl rfl) rfl (ak rfl rfl rfl) rfl rfl ?_ | refine oq (o_ rfl rfl rfl) rfl (ak rfl rfl rfl) rfl rfl ?_
     refine oq (iQ rfl rfl) rfl (ak rfl rfl rfl) rfl rfl ?_
     first | refine oq (G_ rfl rfl rfl) rfl (ak rfl rfl rfl) rfl rfl ?_ | refine oq (o_ rfl rfl rfl) rfl (ak rfl rfl rfl) rfl rfl ?_
     refine oq (ay rfl rfl) rfl (ak rfl rfl rfl) rfl rfl ?_
     refine oq (iQ rfl rfl) rfl (ak rfl rfl rfl) rfl rfl ?_
     refine oq (rC rfl rfl rfl) rfl (ak rfl rfl rfl) rfl rfl ?_
     refine agW (iH rfl rfl rfl) rfl ?_
     refine pq ?_
     refine W.bC rfl (fun c52=>?_) (fun c52=>?_)
     ·refine W.seq<|W.region rfl<|agb rfl rfl rfl<|agb rfl rfl rfl<|pq<|W.ret<|aY<|cZ<|aY ?_
      refine aY<|cZ<|aY ?_
      have ht:P9 ps r p=false:=by
       first | (exfalso;omega) | exact afU (by omega) | (rw[ht0];simp only[Bool.and_eq_false_iff,decide_eq_false_iff_not];omega)
      refine uZ ?_
      rw[afR,hfo,ht];rfl
     ·refine W.skip<|aA<|W.region rfl<|qm rfl rfl rfl<|qm rfl rfl rfl<|qm rfl rfl rfl ?_
      refine ag3 rfl ?_
      refine agX rfl ?_
      refine ag3 rfl ?_
      refine ag2 rfl ?_
      refine qm rfl rfl rfl ?_
      refine cp (fun h' hE hL=>ab_ _ h' x r (by omega) (by omega)) ?_
      refine agb rfl rfl rfl<|Ops.nil<|dI<|aA<|W.region rfl<|qm rfl rfl rfl ?_
      refine ag1 rfl ?_
      refine agb rfl rfl rfl<|pq ?_
      have ht:P9 ps r p=true:=by rw[ht0];simp only[Bool.and_eq_true,decide_eq_true_eq];omega
      refine⟨rfl,(i+1,gy ps p r),⟨hil,AZ,by rw[hfo,ht];rfl⟩,by dsimp only;omega,⟨rfl,lk rfl (by rw[Vl hx]),rfl,rfl,trivial⟩,.refl⟩
 ·refine W.exit<|bP<|bP<|gG<|aA<|W.seq<|W.region rfl<|qm rfl rfl rfl<|agb rfl rfl rfl<|agb rfl rfl rfl ?_
  refine pq<|W.ret ?_
  obtain rfl:i=w.length:=by omega
  refine uZ ?_
  rw[afR,hfo,List.drop_length];rfl
theorem UG.filter{α:Type}{row:α→List Value}{k:Nat}[Rw row k]{E:TypeId}{vs:List Sv}{ls:List (List α)}{A:ah}(h:UG E row vs ls A)(P:List α→Bool):∃B,UG E row (((vs.zip ls).filter fun x=>P x.2).map (·.1)) (ls.filter P) B∧Sb B A:=by
 induction h with
 | nil=>exact⟨[],.nil,.refl⟩
 | @cons s l A B vs ls h1 h2 ih=>
  obtain⟨C,h3,h4⟩:=ih
  rw[List.zip_cons_cons,List.filter_cons,List.filter_cons]
  cases hP:P l
  ·exact⟨C,by simpa[hP]using h3,h4.left h1.shut⟩
  ·exact⟨A++C,by simpa[hP]using UG.cons h1 h3,Sb.app .refl h4⟩
def agA(ps:List Pn)(q:Nat)(g:List Int):Bool:=(afd ps q (g.map Int.toNat)).isSome
theorem agS(w:List Nat):(zs w).map Int.toNat=w:=by
 rw[zs,List.map_map]
 exact(List.map_congr_left fun x _=>Int.toNat_natCast x).trans (List.map_id _)
theorem agT{ps:List Pn}{q n:Nat}:(aff ps.length n).filter (agA ps q)=(afw ps q n).map zs:=by
 rw[afL,List.filter_map,afw]
 congr 1
 exact List.filter_congr fun w _=>by show agA ps q (zs w)=_;rw[agA,agS]
theorem ag0(main:Side)(h:Hp)(ps:List Pn)(vp:Value)(q n:Nat)(hf:Sl h Pn.row vp ps)(hok:iP ps)(hq:q<13)(hn:n≤5):dV prog main ael #[vp,I q,I n] h [] (fun v A=>∃O us B,Os nS ags v us O∧UG dL fH us ((afw ps q n).map zs) B∧Sb (O++B) A):=by
 obtain⟨a,cap,rfl⟩:=hf.dA
 have h4:=hok.len
 refine dV.aG afJ rfl (by show 3≤41;decide) [(0,.slice a ps.length cap),(1,I q),(2,I n)] ⟨rfl,rfl,rfl,trivial⟩ ?_
 refine W.seq<|W.region rfl<|agb rfl rfl rfl<|pq<|W.seq<|W.region rfl<|agb rfl rfl rfl<|pq ?_
 refine W.seq<|W.region rfl<|qm rfl rfl rfl ?_
 refine agW (dM rfl rfl) rfl ?_
 refine qm rfl rfl rfl ?_
 refine c0 (fun h' hE hL=>agz _ h' ps.length n h4 hn) (fun v A' hv=>?_)
 obtain⟨O,us,B,hO,hB,hsb⟩:=hv
 refine Ops.sb (F':=O++B) (by simpa using hsb) ?_
 obtain⟨sa,sc,rfl⟩:=hO.dA
 have hbd:=agc (m:=ps.length) (k:=n) h4 hn
 have hul:=hB.len
 refine agb rfl rfl rfl<|pq<|W.seq<|W.seq<|W.region rfl<|agb rfl rfl rfl<|pq<|W.block ?_
 refine W.loop (σ:=Nat×List Sv×Option Addr×Nat×ah) (fun s=>s.1≤us.length∧s.2.1=(((us.zip (aff ps.length n)).take s.1).filter fun x=>agA ps q x.2).map (·.1)∧Os nS ags (.slice s.2.2.1 s.2.1.length s.2.2.2.1) s.2.1 s.2.2.2.2) (fun s=>[(9,I s.1),(8,.slice sa us.length sc),(7,.slice s.2.2.1 s.2.1.length s.2.2.2.1),(0,.slice a ps.length cap),(1,I q)]) (fun s=>(O++B)++s.2.2.2.2) (fun s=>us.length-s.1) (0,[],none,0,[]) ⟨Nat.zero_le _,by simp,.nil .nil⟩ ⟨rfl,rfl,rfl,rfl,rfl,trivial⟩ (by rw[List.append_nil];exact .refl) ?_
 rintro⟨i,ns,na,nc,N⟩ ⟨hi,hns,hN⟩
 dsimp only at*
 refine W.seq<|W.seq<|W.region rfl<|qm rfl rfl rfl<|qm rfl rfl rfl ?_
 refine agW (dM rfl rfl) rfl ?_
 refine agW (fO rfl rfl rfl) rfl ?_
 refine pq ?_
 refine W.bC rfl (fun c19=>?_) (fun c19=>?_)
 ·have hi1:i<us.length:=by omega
  obtain⟨g,hg,-⟩:=has (show i<(aff ps.length n).length by omega)
  obtain⟨s,hs0,-⟩:=has hi1
  have hgl:g.length=n:=agE (List.mem_of_getElem? hg)
  have hnl:ns.length≤1024:=by
   rw[hns,List.length_map]
   refine Nat.le_trans (List.length_filter_le ..) ?_
   rw[List.length_take];omega
  obtain⟨w,hw,rfl⟩:∃w:List Nat,w.length=n∧zs w=g:=by
   have:=List.mem_of_getElem? hg
   rw[afL]at this
   obtain⟨w,h1,h2⟩:=List.mem_map.1 this
   exact⟨w,(afh.1 h1).1,h2⟩
  have hz:(us.zip (aff ps.length n))[i]? =some (s,zs w):=by rw[List.getElem?_zip_eq_some];exact⟨hs0,hg⟩
  have hfi:agA ps q (zs w)=(afd ps q w).isSome:=by rw[agA,agS]
  obtain⟨βo,co',Jo,hsa,hOe,-,-,-,hPo,-⟩:=hO.open (by omega)
  subst hsa
  have hcell:co'[0+i*1+0]? =some (.slice s.a s.n s.cap):=hPo.Bo hs0 0 (by decide)
  refine W.skip<|aA<|W.seq<|W.block<|W.seq<|W.region rfl<|qm rfl rfl rfl<|qm rfl rfl rfl<|qm rfl rfl rfl<|qm rfl rfl rfl ?_
  refine ag3 rfl ?_
  refine agW (iQ rfl rfl (.inr (fun _ e=>by subst e;exact List.mem_append_left _ (List.mem_append_left _ (by rw[hOe];exact .head _)))) hcell) rfl ?_
  refine cp (fun h' hE hL=>afB _ h' ps _ s.val q w (hf.ext hE) hok hq (hB.sl (fun b o hb=>hL b o (List.mem_append_left _ (List.mem_append_right _ hb))) hs0 hg) (by omega)) ?_
  obtain⟨fe,hfe⟩:∃fe:Int,afR ps q w= .tuple #[I fe,.bool (afd ps q w).isSome]:=by
   unfold afR;cases afd ps q w <;>exact⟨_,rfl⟩
  rw[hfe]
  refine qm rfl rfl rfl<|oq (bD rfl rfl rfl) rfl wn rfl rfl<|oq (bD rfl rfl rfl) rfl wn rfl rfl<|agb rfl rfl rfl<|agb rfl rfl rfl<|pq<|W.seq<|W.region rfl<|qm rfl rfl rfl ?_
  refine pq ?_
  refine W.cond rfl (fun c32=>?_) (fun c32=>?_)
  ·refine W.region rfl<|qm rfl rfl rfl<|qm rfl rfl rfl<|qm rfl rfl rfl ?_
   refine ag3 rfl ?_
   refine agW (iQ rfl rfl (.inr (fun _ e=>by subst e;exact List.mem_append_left _ (List.mem_append_left _ (by rw[hOe];exact .head _)))) hcell) rfl ?_
   refine Ops.NK (cs:= #[.slice s.a s.n s.cap]) (fun aiA=>?_) rfl
   refine oe rfl wn rfl rfl (iW (row:=ags) (l':=[s]) rfl rfl rfl hN (.tail (.app .all)) (fun h2 _ hl=>Sl.mk (hl aiA _ (.head _)) rfl (Part.all (ags s))) (by simp;omega) (by decide) rfl (fun v3 N3 hN3=>?_))
   obtain⟨na3,nc3,rfl⟩:=hN3.dA
   refine agb rfl rfl rfl<|Ops.nil<|dI<|aA<|W.region rfl<|qm rfl rfl rfl ?_
   refine ag1 rfl ?_
   refine agb rfl rfl rfl<|pq ?_
   exact⟨rfl,(i+1,ns++[s],na3,nc3,N3),⟨hi1,by dsimp only;rw[List.take_add_one,hz,List.filter_append,List.map_append,hns];simp[hfi,c32],hN3⟩,by dsimp only;omega,⟨rfl,rfl,rfl,rfl,rfl,trivial⟩,.skip rfl .refl⟩
  ·refine W.skip<|dI<|aA<|W.region rfl<|qm rfl rfl rfl ?_
   refine ag1 rfl ?_
   refine agb rfl rfl rfl<|pq ?_
   exact⟨rfl,(i+1,ns,na,nc,N),⟨hi1,by dsimp only;rw[List.take_add_one,hz,List.filter_append,List.map_append,hns];simp[hfi,c32],hN⟩,by dsimp only;omega,⟨rfl,rfl,rfl,rfl,rfl,trivial⟩,.refl⟩
 ·refine W.exit<|bP<|bP<|gG<|aA<|W.seq<|W.region rfl<|qm rfl rfl rfl<|agb rfl rfl rfl<|Ops.nil ?_
  refine aA<|W.ret ?_
  obtain rfl:i=us.length:=by omega
  rw[List.take_of_length_le (by rw[List.length_zip];omega)]at hns
  obtain⟨B2,hB2,Oh⟩:=hB.filter (agA ps q)
  rw[agT,←hns]at hB2
  refine mg (vs:=[_]) ⟨N,ns,B2,hN,hB2,?_⟩
  refine(Sb.trans (.dF List.perm_append_comm) (Sb.app Oh .refl)).trans ?_
  rw[List.append_assoc]
  exact .left .refl hO.shut
end Go.aS

/- Comparing truth values. Conditions: none; over any program. -/
namespace Go.aS
section
variable{x:Cx}{ρ:Env}{S:ah→Prop}{o:Oper}{v:Value}
theorem af2{P:Program}{t:TypeId}[TD P t .bool](n:Nat){a b:Bool}{h:Hp}{F:ah}{β:Type}{f:Bool→Sem β}{Q:β→ah→Prop}:tr P h ((Op.equalIn (n+1) t (.bool a) (.bool b)).bind f) F Q=tr P h (f (a==b)) F Q:=by
 simp only[Op.equalIn,bind_eq,au,bind_assoc,bind_pure,aC,if_true]
theorem ae9{t t':TypeId}{y z:Operand}{a b:Bool}(ho:o.op= .binOp .neq t y z t')[TD x.P t .bool](hy:ev ρ y=some (.bool a))(hz:ev ρ z=some (.bool b)):Yv x S ρ o (.bool (!(a==b))):=fun e he F hF h' hE=>by
 have hg:eqGuard .neq t y z (.bool a) (.bool b)= .pure ():=by unfold eqGuard;split <;>rfl
 simp only[execOp,ho,he y _ hy,he z _ hz,hg,bind_eq,au,bind_assoc,bind_pure,binOp]
 have:= @af2 x.P t _ 9999 a b h' F Next (fun r=>Sem.pure (Next.value (.bool !r))) (fun nx F'=>nx= .value (.bool (!(a==b)))∧F'=F)
 refine this.mpr ⟨rfl,rfl⟩
end
end Go.aS

/- Shut blocks are put by. Conditions: none; over any program. -/
namespace Go.aS
theorem agy{c:Code}{Q:Post}{ρ:Env}{ds:List Deferred}{F:ah}:∀{A:ah} {x:Cx},Shut A→(∀h',Ext x.h h'→fF A h'→W {x with h:=h'} c Q ρ ds F)→W x c Q ρ ds (A++F)
 | [],x,_,H=>H x.h ⟨fun _ _ q=>q,fun _ q=>q⟩ fun b o hb=>by cases hb
 | (b,o)::A,x,hA,H=>W.freeze (hA _ (.head _)) fun h' hE hb hz=>agy (x:={x with h:=h'}) (fun p hp=>hA p (.tail _ hp)) fun h'' hE' hL=>H h'' (hE.trans hE') fun b' o' h=>by
  rcases List.mem_cons.1 h with e | h
  ·cases e;exact hE'.1 _ _ hb
  ·exact hL _ _ h
theorem W.cut{x:Cx}{c c2:Code}{Q:Post}{ρ:Env}{ds:List Deferred}{F:ah}(L:Env)(G:ah)(H:W x c (fun e ρ' ds' F'=>e= .normal∧ds'=ds∧Sub L ρ'∧Sb G F') ρ ds F)(K:W x c2 Q L ds G):W x c (thn (fun ρ' ds' F'=>W x c2 Q ρ' ds' F') Q) ρ ds F:=
 W.mono H fun e ρ' ds' F' h=>by
  obtain⟨he,hd,hs,hb⟩:=h
  subst he hd
  exact aA (W.env hs (W.sb hb K))
theorem W.aiB{σ:Type}{x:Cx}{c c2:Code}{Q:Post}{ρ:Env}{ds:List Deferred}{F:ah}(ok:σ→Prop)(L:σ→Env)(G:σ→ah)(H:W x c (fun e ρ' ds' F'=>e= .normal∧ds'=ds∧∃s,ok s∧Sub (L s) ρ'∧Sb (G s) F') ρ ds F)(K:∀s,ok s→W x c2 Q (L s) ds (G s)):W x c (thn (fun ρ' ds' F'=>W x c2 Q ρ' ds' F') Q) ρ ds F:=
 W.mono H fun e ρ' ds' F' h=>by
  obtain⟨he,hd,s,ho,hs,hb⟩:=h
  subst he hd
  exact aA (W.env hs (W.sb hb (K s ho)))
end Go.aS

/- SyrupRing. Conditions: none; over the given program. -/
namespace Go.aS
set_option maxRecDepth 100000
set_option maxHeartbeats 4000000
end Go.aS

/- From where syrups go round for ever: the list. Conditions: none; over the given program. -/
namespace Go.aS
set_option maxRecDepth 100000
set_option maxHeartbeats 4000000
def qsL(f:Nat→Bool):List Nat:=(List.range 13).filter f
theorem afm{f:Nat→Bool}{q:Nat}:q∈qsL f↔q<13∧f q=true:=by simp[qsL]
theorem afn{f:Nat→Bool}:(qsL f).length≤13:=Nat.le_trans (List.length_filter_le ..) (by simp)
theorem ae1(main:Side)(h:Hp)(f:Nat→Bool):dV prog main aaV #[.agg (bA f)] h [] (fun v A=>∃S,Os dL fH v (zs (qsL f)) S∧Sb S A):=by
 refine dV.aG aa2 rfl (by show 1≤18;decide) [(0,.agg (bA f))] ⟨rfl,trivial⟩ ?_
 have hsz:(bA f).size=13:=nX
 have hon:ones (bA f).toList=true:=Un
 refine W.seq<|W.region rfl ?_
 refine Ops.box (cs:=bA f) (fun β1=>?_)
 refine agb rfl rfl rfl<|pq<|W.seq<|W.region rfl<|agb rfl rfl rfl<|pq<|W.seq<|W.seq ?_
 refine W.region rfl ?_
 refine ag2 rfl ?_
 refine qm rfl rfl rfl<|pq<|W.block ?_
 refine W.Js (fun(k:Nat) (v:Value) (S:ah)=>k≤13∧Os dL fH v (zs ((List.range k).filter f)) S) (fun k v S=>[(7,I k),(6,.agg (bA f)),(3,v),(1,.pointer (some ⟨β1,0,none⟩))]) (fun k v S=>S++[(β1,.cells (bA f) aP (0,0))]) (fun k _ _=>13-k) 0 (.slice none 0 0) [] ⟨Nat.zero_le _,.nil .nil⟩ ⟨rfl,rfl,rfl,rfl,trivial⟩ .refl ?_
 rintro k v S ⟨hk,hS⟩
 refine W.seq<|W.region rfl ?_
 refine agW (fO rfl rfl rfl) rfl ?_
 refine pq<|W.seq ?_
 refine W.bC rfl (fun c8=>?_) (fun c8=>?_)
 ·have Vq:k<13:=by omega
  have hlen:(zs ((List.range k).filter f)).length≤13:=by rw[kT];exact Nat.le_trans (List.length_filter_le ..) (by simp;omega)
  refine W.skip<|aA<|W.seq<|W.block<|W.seq<|W.region rfl<|qm rfl rfl rfl ?_
  refine agW (Ti (n:=k) (v:=.bool (f k)) rfl rfl rfl (by omega) (by omega) (by rw[Int.toNat_natCast,Nat.mul_one];exact L9 Vq)) rfl ?_
  refine agb rfl rfl rfl<|agb rfl rfl rfl<|pq<|W.seq<|W.region rfl<|qm rfl rfl rfl<|pq ?_
  refine W.cond rfl (fun c11=>?_) (fun c11=>?_)
  ·refine W.region rfl<|qm rfl rfl rfl<|qm rfl rfl rfl ?_
   refine Ops.NK (cs:= #[I k]) (fun aht=>?_) rfl
   refine oe rfl wn rfl rfl (iW (row:=fH) (l':=[(k:Int)]) rfl rfl rfl hS (.tail .head) (fun h2 _ hl=>Sl.mk (hl aht _ (.head _)) rfl (Part.all [I k])) (by simp;omega) (by decide) rfl (fun v' S' hS'=>?_))
   refine agb rfl rfl rfl<|Ops.nil<|dI<|aA<|W.region rfl ?_
   refine ag1 rfl ?_
   refine qm rfl rfl rfl<|pq ?_
   exact⟨rfl,k+1,v',S',⟨by omega,by rw[List.range_succ,List.filter_append,X3];simpa[zs,c11]using hS'⟩,by omega,⟨rfl,rfl,rfl,rfl,trivial⟩,.skip rfl .refl⟩
  ·refine W.skip<|dI<|aA<|W.region rfl ?_
   refine ag1 rfl ?_
   refine qm rfl rfl rfl<|pq ?_
   exact⟨rfl,k+1,v,S,⟨by omega,by rw[List.range_succ,List.filter_append,X3];simpa[zs,c11]using hS⟩,by omega,⟨rfl,rfl,rfl,rfl,trivial⟩,.refl⟩
 ·refine W.exit<|bP<|bP<|gG<|aA<|W.seq<|W.region rfl<|qm rfl rfl rfl<|agb rfl rfl rfl<|Ops.nil ?_
  refine aA<|W.ret ?_
  obtain rfl:k=13:=by omega
  exact mg (vs:=[v]) ⟨S,hS,.right .refl (.cons rfl .nil)⟩
end Go.aS

/- The shortest way to treacle; what treacle comes of a syrup. Conditions: none; over the given program. -/
namespace Go.aS
set_option maxRecDepth 100000
set_option maxHeartbeats 4000000
def shF(ps:List Pn)(c q:Nat):Option Wy:=(Ah (dO ps c) q).find? fun w=>dY ps w.2
theorem ah_(main:Side)(h:Hp)(ps:List Pn)(vp:Value)(c q:Nat)(hf:Sl h Pn.row vp ps)(hok:iP ps)(hc:c<16)(hq:q<13):dV prog main ag6 #[xJ vp c,I q] h [] (fun v A=>∃w S,v= .tuple #[w,.bool (shF ps c q).isSome]∧(∀u,shF ps c q=some u→Vx S w (zs u.1))∧(shF ps c q=none→w= .slice none 0 0)∧Shut S∧Sb S A):=by
 obtain⟨a,cap,rfl⟩:=hf.dA
 refine dV.aG ahp rfl (by show 2≤17;decide) [(0,xJ (.slice a ps.length cap) c),(1,I q)] ⟨rfl,rfl,trivial⟩ ?_
 refine W.seq<|W.region rfl ?_
 refine Ops.box (cs:= #[.slice a ps.length cap,U8 c]) (fun yR=>?_)
 refine Ops.new (fun wC=>?_)
 refine Ops.new (fun mZ=>?_)
 refine pq<|W.seq<|W.seq<|W.region rfl ?_
 refine ag2 rfl ?_
 refine qm rfl rfl rfl ?_
 refine c0 (fun h' hE hL=>Yt _ h' _ c q rfl) (fun v A' hv=>?_)
 obtain⟨b1,b2,rfl,rfl⟩:=hv
 refine pq<|W.block ?_
 refine W.abW (Val:=adG) (xs:=Ah (dO ps c) q) rfl rfl rfl
  (fun k A=>(∀y∈(Ah (dO ps c) q).take k,dY ps y.2=false)∧A=[(mZ,.cells #[.bool false] RS (0,0)),(wC,.cells #[.slice none 0 0] nS (0,0)),(yR,.cells #[.slice a ps.length cap,U8 c] bG (0,0))])
  (fun k v e A=>e= .ret∧∃w vw,(Ah (dO ps c) q)[k]? =some w∧(∀y∈(Ah (dO ps c) q).take k,dY ps y.2=false)∧dY ps w.2=true∧v= .agg #[vw,I w.2]∧A=[(mZ,.cells #[.bool true] RS (0,0)),(wC,.cells #[vw] nS (0,0))])
  (.tail (.tail .all)) ⟨by simp,rfl⟩ (fun h' hE hL=>Qm _ h' ps _ c q b1 b2 _ _ _ _ (hf.ext hE) hok hc (by omega) (hL b1 _ (.head _)) (hL b2 _ (.tail _ (.head _)))) ?_ ?_
 ·rintro k p v S A1 hp ⟨vw,rfl,hv1,hvR⟩ ⟨hno,rfl⟩ l h1 hE1 hL1 hS1
  obtain⟨av,cv,rfl⟩:=(hvR.2 _ hS1).dA
  have hlen:(zs p.1).length=p.1.length:=kT _
  refine W.region rfl ?_
  refine Ops.new (fun yC=>?_)
  refine Ops.jP (vs:= #[.slice av (zs p.1).length cv,I p.2]) ?_
  refine Ops.nil ?_
  refine⟨rfl,rfl,fun h0 hE0 hL0=>?_⟩
  intro hS0
  refine W.block<|W.seq<|W.region rfl ?_
  refine ag2 rfl ?_
  refine agY rfl ?_
  refine agX rfl ?_
  refine cp (fun h' hE hL=>Si _ h' ps _ c p.2 (hf.ext (hE0.trans hE)) hok.len) ?_
  refine pq ?_
  refine W.cond rfl (fun c14=>?_) (fun c14=>?_)
  ·refine W.seq<|W.region rfl ?_
   refine agY rfl ?_
   refine agX rfl ?_
   refine Ops.yG ?_
   refine Ops.yG ?_
   refine pq<|W.ret<|cZ ?_
   exact⟨rfl,.inr ⟨rfl,_,⟨rfl,p,_,hp,hno,c14,rfl,rfl⟩,.skip rfl (.cons (.cons (.nil (.cons rfl .nil))))⟩⟩
  ·refine W.skip<|dI ?_
   exact⟨rfl,.inl ⟨rfl,_,⟨Qn (p:=fun w:Wy=>dY ps w.2) hp hno (by simpa using c14),rfl⟩,.skip rfl .refl⟩⟩
 ·rintro e2 A2 (⟨rfl,hno,rfl⟩ | ⟨k,p,v,S,B,hp,⟨vw,rfl,hv1,hvR⟩,⟨rfl,w,vw',hw,hno,hr,hv,rfl⟩,rfl⟩) d
  ·refine dI<|aA<|W.seq<|W.region rfl ?_
   refine Ops.yG ?_
   refine Ops.yG ?_
   refine pq<|W.ret ?_
   have e3:shF ps c q=none:=Vz hno
   refine lvm (hl:=At.head) (QJ (hv:=rSc (rSc zJ)) ?_)
   rw[e3]
   exact⟨_,[],rfl,(fun u h=>by cases h),(fun _=>rfl),.nil,.nil (by repeat(first | exact Shut.nil | refine Shut.cons rfl ?_))⟩
  ·obtain rfl:=Option.some.inj (hp.symm.trans hw)
   obtain rfl:vw=vw':=by simpa using hv
   have e3:shF ps c q=some p:=Ut hp hno hr
   refine cZ<|aY ?_
   refine lvm (hl:=At.head) (QJ (hv:=rSc (rSc zJ)) ?_)
   rw[e3]
   exact⟨_,S,rfl,(fun u h=>by cases h;exact hvR),(fun h=>by cases h),hvR.1,.skip rfl (.skip rfl (.skip rfl (.skip rfl (.skip rfl .refl))))⟩
def ahU(ps:List Pn)(q:Int):List Nat×Int:=
 if kU ps [q]≠0 then([],kU ps [q])else
  match shF ps 0 q.toNat with
  | some w=>(w.1,0)
  | none=>([],11)
theorem aib(main:Side)(h:Hp)(ps:List Pn)(vp:Value)(q:Int)(hf:Sl h Pn.row vp ps):dV prog main ahi #[vp,I q] h [] (fun v A=>∃w S,v= .tuple #[w,I (ahU ps q).2]∧Vx S w (zs (ahU ps q).1)∧Sb S A):=by
 obtain⟨a,cap,rfl⟩:=hf.dA
 refine dV.aG ahO rfl (by show 2≤29;decide) [(0,.slice a ps.length cap),(1,I q)] ⟨rfl,rfl,trivial⟩ ?_
 refine W.seq<|W.region rfl<|agb rfl rfl rfl<|agb rfl rfl rfl<|pq<|W.seq<|W.region rfl<|qm rfl rfl rfl<|qm rfl rfl rfl ?_
 refine Ops.NK (cs:= #[I q]) (fun X5=>?_) rfl
 refine cp (fun h' hE hL=>Am _ h' ps _ [q] _ (hf.ext hE) (Sl.mk (hL X5 _ (.head _)) rfl (Part.all [I q])) (by simp)) ?_
 refine qm rfl rfl rfl<|oq (bD rfl rfl rfl) rfl wn rfl rfl<|oq (bD rfl rfl rfl) rfl wn rfl rfl ?_
 have hcs:∃cs:Array Value,(if kU ps [q]=0 then xJ (.slice a ps.length cap) 0 else LZ)= .agg cs∧cs.size=2∧ones cs.toList=true:=by
  split <;>exact⟨_,rfl,rfl,rfl⟩
 obtain⟨cs,hcs,hcs2,hcs1⟩:=hcs
 rw[hcs]
 refine Ops.new (fun yC=>?_)
 refine Ops.jP (n:=2) (vs:=cs) ?_ (hy:=by rfl) (hn:=hcs2) (h1:=hcs1)
 refine agb rfl rfl rfl<|pq<|W.seq<|W.seq<|W.region rfl<|qm rfl rfl rfl ?_
 refine agW (nG rfl rfl rfl) rfl ?_
 refine pq ?_
 refine W.bC rfl (fun c18=>?_) (fun c18=>?_)
 ·have e:ahU ps q=([],kU ps [q]):=by rw[ahU,if_pos (by simpa using c18)]
  refine W.seq<|W.region rfl<|qm rfl rfl rfl<|agb rfl rfl rfl<|agb rfl rfl rfl<|pq<|W.ret<|aY ?_
  refine mg (vs:=[_,_]) ?_
  rw[e]
  exact⟨_,[],rfl,⟨.nil,fun _ _=>.nil⟩,.nil (by repeat(first | exact Shut.nil | refine Shut.cons rfl ?_))⟩
 ·have h0:kU ps [q]=0:=by simpa using c18
  obtain⟨hok,hq0,hq12⟩:=Sj h0
  rw[if_pos h0]at hcs
  cases hcs
  obtain⟨q,rfl⟩:∃n:Nat,q=n:=⟨q.toNat,by omega⟩
  have e:ahU ps q=match shF ps 0 q with | some w=>(w.1,0) | none=>([],11):=by rw[ahU,if_neg (by simpa using h0),Int.toNat_natCast]
  refine W.skip<|aA<|W.seq<|W.region rfl ?_
  refine ag2 rfl ?_
  refine qm rfl rfl rfl ?_
  refine c0 (fun h' hE hL=>ah_ _ h' ps _ 0 q (hf.ext hE) hok (by decide) (by omega)) (fun v A' hv=>?_)
  obtain⟨w,S,rfl,hw1,hw2,hSS,hsb⟩:=hv
  refine qm rfl rfl rfl<|oq (bD rfl rfl rfl) rfl wn rfl rfl<|oq (bD rfl rfl rfl) rfl wn rfl rfl<|agb rfl rfl rfl<|agb rfl rfl rfl<|pq<|W.seq<|W.seq<|W.region rfl ?_
  refine qm rfl rfl rfl ?_
  refine agW (xU rfl rfl) rfl ?_
  refine pq ?_
  refine W.cond rfl (fun c27=>?_) (fun c27=>?_)
  ·have e2:shF ps 0 q=none:=by
    cases hh:shF ps 0 q with
    | none=>rfl
    | some u=>rw[hh]at c27;simp at c27
   rw[e2]at e
   refine W.seq<|W.region rfl<|agb rfl rfl rfl<|agb rfl rfl rfl<|pq<|W.ret<|aY ?_
   refine mg (vs:=[_,_]) ?_
   rw[e]
   exact⟨_,[],rfl,⟨.nil,fun _ _=>.nil⟩,.nil ((Sb.trans (.nil hSS) hsb).shut.app (by repeat(first | exact Shut.nil | refine Shut.cons rfl ?_)))⟩
  ·refine W.skip<|aA<|W.seq<|W.region rfl<|qm rfl rfl rfl<|agb rfl rfl rfl<|agb rfl rfl rfl<|pq<|W.ret ?_
   obtain⟨u,e2⟩:∃u,shF ps 0 q=some u:=by
    cases hh:shF ps 0 q with
    | none=>rw[hh]at c27;simp at c27
    | some u=>exact⟨u,rfl⟩
   rw[e2]at e
   refine mg (vs:=[_,_]) ?_
   rw[e]
   exact⟨_,S,rfl,hw1 u e2,.right hsb (by repeat(first | exact Shut.nil | refine Shut.cons rfl ?_))⟩
def enB(ps:List Pn)(l:List Wy)(e:Nat):Bool:=l.any fun w=>decide (w.2=e)&&dY ps w.2
def EnF(ps:List Pn)(q:Int):List Nat×Int:=if kU ps [q]≠0 then([],kU ps [q])else(qsL (enB ps (Ah (dO ps 0) q.toNat)),0)
theorem aio{ps:List Pn}{l:List Wy}{k:Nat}{w:Wy}(h:l[k]? =some w):(fun i=>if i=w.2 then dY ps w.2 else enB ps (l.take k) i)=enB ps (l.take (k+1)):=by
 funext i
 rw[List.take_add_one,h]
 simp only[enB,Option.toList_some,List.any_append,List.any_cons,List.any_nil,Bool.or_false]
 by_cases hi:i=w.2
 ·subst hi
  rw[if_pos rfl]
  simp only[decide_true,Bool.true_and]
  cases ht:dY ps (w.2:Int)with
  | true=>rw[Bool.or_true]
  | false=>
   rw[Bool.or_false,eq_comm]
   refine List.any_eq_false.2 fun u hu=>?_
   simp only[Bool.and_eq_true,decide_eq_true_eq,not_and]
   intro hu2;rw[hu2,ht];decide
 ·rw[if_neg hi,decide_eq_false (fun h=>hi h.symm),Bool.false_and,Bool.or_false]
theorem aiH(main:Side)(h:Hp)(ps:List Pn)(vp:Value)(q:Int)(hf:Sl h Pn.row vp ps):dV prog main ahw #[vp,I q] h [] (fun v A=>∃w S,v= .tuple #[w,I (EnF ps q).2]∧Os dL fH w (zs (EnF ps q).1) S∧Sb S A):=by
 obtain⟨a,cap,rfl⟩:=hf.dA
 refine dV.aG ahW rfl (by show 2≤33;decide) [(0,.slice a ps.length cap),(1,I q)] ⟨rfl,rfl,trivial⟩ ?_
 refine W.seq<|W.region rfl<|agb rfl rfl rfl<|agb rfl rfl rfl<|pq<|W.seq<|W.region rfl<|qm rfl rfl rfl<|qm rfl rfl rfl ?_
 refine Ops.NK (cs:= #[I q]) (fun X5=>?_) rfl
 refine cp (fun h' hE hL=>Am _ h' ps _ [q] _ (hf.ext hE) (Sl.mk (hL X5 _ (.head _)) rfl (Part.all [I q])) (by simp)) ?_
 refine qm rfl rfl rfl<|oq (bD rfl rfl rfl) rfl wn rfl rfl<|oq (bD rfl rfl rfl) rfl wn rfl rfl ?_
 have hcs:∃cs:Array Value,(if kU ps [q]=0 then xJ (.slice a ps.length cap) 0 else LZ)= .agg cs∧cs.size=2∧ones cs.toList=true:=by
  split <;>exact⟨_,rfl,rfl,rfl⟩
 obtain⟨cs,hcs,hcs2,hcs1⟩:=hcs
 rw[hcs]
 refine Ops.new (fun yC=>?_)
 refine Ops.jP (n:=2) (vs:=cs) ?_ (hy:=by rfl) (hn:=hcs2) (h1:=hcs1)
 refine agb rfl rfl rfl<|pq<|W.seq<|W.seq<|W.region rfl<|qm rfl rfl rfl ?_
 refine agW (nG rfl rfl rfl) rfl ?_
 refine pq ?_
 refine W.bC rfl (fun c18=>?_) (fun c18=>?_)
 ·have e:EnF ps q=([],kU ps [q]):=by rw[EnF,if_pos (by simpa using c18)]
  refine W.seq<|W.region rfl<|qm rfl rfl rfl<|agb rfl rfl rfl<|agb rfl rfl rfl<|pq<|W.ret<|aY ?_
  refine mg (vs:=[_,_]) ?_
  rw[e]
  exact⟨_,[],rfl,.nil .nil,.nil (by repeat(first | exact Shut.nil | refine Shut.cons rfl ?_))⟩
 ·have h0:kU ps [q]=0:=by simpa using c18
  obtain⟨hok,hq0,hq12⟩:=Sj h0
  rw[if_pos h0]at hcs
  cases hcs
  obtain⟨q,rfl⟩:∃n:Nat,q=n:=⟨q.toNat,by omega⟩
  have e:EnF ps q=(qsL (enB ps (Ah (dO ps 0) q)),0):=by rw[EnF,if_neg (by simpa using h0),Int.toNat_natCast]
  refine W.skip<|aA<|W.seq<|W.region rfl ?_
  refine Ops.new (fun yD=>?_)
  refine pq<|W.seq<|W.seq<|W.region rfl ?_
  refine ag2 rfl ?_
  refine qm rfl rfl rfl ?_
  refine c0 (fun h' hE hL=>Yt _ h' _ 0 q rfl) (fun v A' hv=>?_)
  obtain⟨b1,b2,rfl,rfl⟩:=hv
  refine pq<|W.block ?_
  refine W.abW (Val:=adG) (xs:=Ah (dO ps 0) q) rfl rfl rfl
   (fun k A=>A=[(yD,.cells (bA (enB ps ((Ah (dO ps 0) q).take k))) aP (0,0)),(yC,.cells #[.slice a ps.length cap,U8 0] bG (0,0)),(X5,.cells #[I q] dL (0,0))])
   (fun k v e A=>False)
   (.tail (.tail .all)) (eqc (by rfl)) (fun h' hE hL=>Qm _ h' ps _ 0 q b1 b2 _ _ _ _ (hf.ext hE) hok (by decide) (by omega) (hL b1 _ (.head _)) (hL b2 _ (.tail _ (.head _)))) ?_ ?_
  ·rintro k p v S A1 hp ⟨vw,rfl,hv1,hvR⟩ rfl l h1 hE1 hL1 hS1
   obtain⟨av,cv,rfl⟩:=(hvR.2 _ hS1).dA
   have hlen:(zs p.1).length=p.1.length:=kT _
   have akj:p.2<13:=by
    obtain⟨met,H⟩:=aee afX (q:=q) (g:=dO ps 0) F9
    exact YU (by omega) (H.path p (by simpa using List.mem_of_getElem? hp))
   have hsz:0+p.2*1<(bA (enB ps ((Ah (dO ps 0) q).take k))).size:=by rw[nX];omega
   refine W.region rfl ?_
   refine Ops.new (fun Uw=>?_)
   refine Ops.jP (vs:= #[.slice av (zs p.1).length cv,I p.2]) ?_
   refine Ops.nil ?_
   refine⟨rfl,rfl,fun h0 hE0 hL0=>?_⟩
   intro hS0
   refine W.block ?_
   refine W.rE (n:=8) rfl ?_
   refine xq 0 (ay rfl rfl) rfl ?_
   refine xq 1 (iQ rfl rfl) rfl ?_
   first | refine xq 2 (Bf rfl rfl) rfl ?_ | refine xq 2 (zi rfl rfl) rfl ?_
   refine xq 3 (ay rfl rfl) rfl ?_
   refine xq 4 (iQ rfl rfl) rfl ?_
   refine Va (i:=5) (fun h' hE hL=>Si _ h' ps _ 0 p.2 (hf.ext (hE0.trans hE)) hok.len) ?_
   first | refine xq 6 (UN rfl rfl rfl) rfl ?_ | refine xq 6 (Qg rfl rfl rfl) rfl ?_
   refine ae (i:=7) rfl an rfl rfl (eS rfl rfl rfl ?_)
   refine⟨.inl (by kernel_rfl),?_⟩
   refine az ?_
   refine dI ?_
   refine⟨rfl,.inl ⟨rfl,_,rfl,.skip rfl (.eq ?_)⟩⟩
   refine eqc ?_
   rw[show 0+p.2*1=p.2 by omega,Og akj,aio hp]
  ·rintro e2 A2 h9 d
   have h9':e2= .normal∧A2=[(yD,.cells (bA (enB ps ((Ah (dO ps 0) q)))) aP (0,0)),(yC,.cells #[.slice a ps.length cap,U8 0] bG (0,0)),(X5,.cells #[I q] dL (0,0))]:=by
    rcases h9 with⟨h1,h2⟩ | ⟨k,p,v,S,B,hp,hv,hF,-⟩
    ·rw[List.take_length]at h2;exact⟨h1,h2⟩
    ·exact hF.elim
   obtain⟨rfl,rfl⟩:=h9'
   have hs1:(bA (enB ps (Ah (dO ps 0) q))).size=13:=nX
   refine dI<|aA<|W.seq<|W.region rfl ?_
   refine ag2 rfl ?_
   refine c0 (fun h' hE hL=>ae1 _ h' _) (fun v A' hv=>?_)
   obtain⟨S,hS,hsb⟩:=hv
   refine agb rfl rfl rfl<|agb rfl rfl rfl<|pq<|W.ret ?_
   refine lvm (mg (vs:=[_,_]) ?_)
   rw[e]
   exact⟨_,S,rfl,hS,.right hsb (by repeat(first | exact Shut.nil | refine Shut.cons rfl ?_))⟩
end Go.aS

/- Treacle, as the document has it. Conditions: none; over the given program. -/
namespace Go.aS
set_option maxRecDepth 100000
set_option maxHeartbeats 4000000
theorem aii(main:Side)(h:Hp)(n lo hi:Int):Pu prog main ahB #[I n,I lo,I hi] h (.bool (decide (lo≤n)&&decide (n≤hi))):=by
 refine dV.aG ah1 rfl (by show 3≤15;decide) [(0,I n),(1,I lo),(2,I hi)] ⟨rfl,rfl,rfl,trivial⟩ ?_
 refine W.seq<|W.region rfl<|agb rfl rfl rfl<|pq<|W.seq<|W.region rfl<|qm rfl rfl rfl<|qm rfl rfl rfl ?_
 refine agW (IJ rfl rfl rfl) rfl ?_
 refine qm rfl rfl rfl ?_
 refine Ops.ask (fun ae5=>?_) (fun ae5=>?_)
 ·refine oq (aN rfl rfl) rfl (ak rfl rfl rfl) rfl rfl ?_
  refine oq (aN rfl rfl) rfl (ak rfl rfl rfl) rfl rfl ?_
  refine oq (Lr rfl rfl rfl) rfl (ak rfl rfl rfl) rfl rfl ?_
  refine agW (dG rfl rfl rfl) rfl ?_
  refine agb rfl rfl rfl<|pq<|W.ret ?_
  refine uZ ?_
  exact congrArg Value.bool (by simp[*])
 ·refine Ops.no ?_
  refine Ops.no ?_
  refine Ops.no ?_
  refine agW (iH rfl rfl rfl) rfl ?_
  refine agb rfl rfl rfl<|pq<|W.ret ?_
  refine uZ ?_
  exact congrArg Value.bool (by simp[*])
theorem aik(main:Side)(h:Hp)(p:Pn)(q:Int):Pu prog main ahz #[p.val,I q] h (.bool (p.takes q)):=by
 refine dV.aG ah0 rfl (by show 2≤11;decide) [(0,p.val),(1,I q)] ⟨rfl,rfl,trivial⟩ ?_
 refine W.seq<|W.region rfl ?_
 refine Ops.box (cs:= #[I p.lo,I p.hi,I p.sh]) (fun yR=>?_)
 refine agb rfl rfl rfl<|pq<|W.seq<|W.region rfl<|qm rfl rfl rfl ?_
 refine agY rfl ?_
 refine agX rfl ?_
 refine agY rfl ?_
 refine agX rfl ?_
 refine cp (fun h' hE hL=>aii _ h' q p.lo p.hi) ?_
 refine agb rfl rfl rfl<|pq<|W.ret ?_
 exact uZ rfl
theorem ah6(main:Side)(h:Hp)(ps:List Pn)(vp:Value)(q:Int)(hf:Sl h Pn.row vp ps)(hn:ps.length≤1000):Pu prog main ahr #[vp,I q] h (.bool (dY ps q)):=by
 obtain⟨a,cap,rfl⟩:=hf.dA
 refine dV.aG ahS rfl (by show 2≤18;decide) [(0,.slice a ps.length cap),(1,I q)] ⟨rfl,rfl,trivial⟩ ?_
 refine W.seq<|W.region rfl<|agb rfl rfl rfl<|pq<|W.seq<|W.seq<|W.region rfl<|agb rfl rfl rfl<|Ops.nil ?_
 refine aA<|W.block ?_
 refine W.loop (σ:=Nat) (fun i=>i≤ps.length∧dY ps q=dY (ps.drop i) q) (fun i=>[(5,I i),(0,.slice a ps.length cap),(1,I q)]) (fun _=>[]) (fun i=>ps.length-i) 0 ⟨Nat.zero_le _,rfl⟩ ⟨rfl,rfl,rfl,trivial⟩ .refl ?_
 rintro i ⟨hi,ht⟩
 refine W.seq<|W.seq<|W.region rfl<|qm rfl rfl rfl<|qm rfl rfl rfl ?_
 refine agW (dM rfl rfl) rfl ?_
 refine agW (fO rfl rfl rfl) rfl ?_
 refine pq ?_
 refine W.bC rfl (fun c9=>?_) (fun c9=>?_)
 ·have hil:i<ps.length:=by omega
  obtain⟨p,hp,hdr⟩:=has hil
  rw[hdr,show dY (p::ps.drop (i+1)) q=(!p.takes q&&dY (ps.drop (i+1)) q)from rfl]at ht
  obtain⟨b,off,c,E,fz,hv,hb,hx,hy,hz⟩:=hf.at hp
  cases hv
  have hx':c.extract (off+i*3) (off+i*3+3)= #[I p.lo,I p.hi,I p.sh]:=hx
  clear hx
  refine W.skip<|aA<|W.seq<|W.block<|W.seq<|W.region rfl<|qm rfl rfl rfl<|qm rfl rfl rfl ?_
  refine ag3 rfl ?_
  refine ag2 rfl ?_
  refine qm rfl rfl rfl ?_
  refine cp (fun h' hE hL=>aik _ h' p q) ?_
  refine pq ?_
  refine W.cond rfl (fun c17=>?_) (fun c17=>?_)
  ·refine W.seq<|W.region rfl<|agb rfl rfl rfl<|pq<|W.ret<|cZ<|aY<|aY<|cZ ?_
   refine aY ?_
   refine uZ ?_
   rw[ht,c17];rfl
  ·refine W.skip<|dI<|aA<|W.region rfl<|qm rfl rfl rfl ?_
   refine ag1 rfl ?_
   refine agb rfl rfl rfl<|pq ?_
   refine⟨rfl,i+1,⟨hil,?_⟩,by omega,⟨rfl,rfl,rfl,trivial⟩,.refl⟩
   rw[ht,show p.takes q=false by simpa using c17];rfl
 ·refine W.exit<|bP<|bP<|gG<|aA<|W.seq<|W.region rfl<|agb rfl rfl rfl<|pq ?_
  refine W.ret ?_
  obtain rfl:i=ps.length:=by omega
  refine uZ ?_
  rw[ht,List.drop_length];rfl
end Go.aS

/- SyrupShortest. Conditions: none; over the given program. -/
namespace Go.aS
set_option maxRecDepth 100000
set_option maxHeartbeats 4000000
theorem aip{ps:List Pn}{q:Nat}:(Ah (dO ps 0) q).find? (fun w=>decide (0≤w.1.length)&&dY ps w.2)=shF ps 0 q:=by
 rw[shF];congr 1
theorem aic{ps:List Pn}{q:Nat}(h:nV ps=0)(hq:q<13):∃v e o,ahU ps q=(v,e)∧afd ps q v=some o∧o<13∧v.length≤13∧
  ((e=0∧dY ps o=true∧shF ps 0 q=some (v,o)∧o∈qsL (enB ps (Ah (dO ps 0) q)))∨(e=11∧v.length=0∧shF ps 0 q=none∧qsL (enB ps (Ah (dO ps 0) q))=[])):=by
 have hb:kU ps [(q:Int)]=0:=UH h (by omega) (by omega)
 have h4:=(iP.yB h).len
 have hR:ahU ps q=match shF ps 0 q with | some w=>(w.1,0) | none=>([],11):=by
  rw[ahU,if_neg (by rw[hb];simp),Int.toNat_natCast] <;>rfl
 cases hf:shF ps 0 q with
 | none=>
  refine⟨[],11,q,by rw[hR,hf],rfl,hq,by simp,.inr ⟨rfl,rfl,rfl,?_⟩⟩
  refine List.eq_nil_iff_forall_not_mem.2 fun e he=>?_
  obtain⟨-,he⟩:=afm.1 he
  obtain⟨w,hw,h1⟩:=List.any_eq_true.1 he
  simp only[Bool.and_eq_true]at h1
  have:=List.find?_eq_none.1 hf w hw
  rw[h1.2]at this;exact this rfl
 | some w=>
  have hf':=hf
  rw[←aip]at hf'
  obtain⟨h1,h2,h3,h5,-⟩:=(agV (g:=dO ps 0) afX (q:=q) F9 (T:=fun k=>dY ps k) (lo:=0) (by omega) hq).2 w hf'
  refine⟨w.1,0,w.2,by rw[hR,hf],(afv h4).2 h1,YU hq h1,h5,.inl ⟨rfl,h2,rfl,?_⟩⟩
  refine afm.2 ⟨YU hq h1,List.any_eq_true.2 ⟨w,List.mem_of_find?_eq_some hf,?_⟩⟩
  simp only[decide_true,Bool.true_and];exact h2
theorem ah4(main:Side)(hS:∀S,main.ok S→∃Fin,S=Mo prog Fin)(hmb:main.b=true)(h:Hp)(nums:List Int)(lv:Value)(Eg:TypeId)(zg:Nat×Nat)(hl:Sl h fH lv nums)(hg:h 0=some (.cells #[Ur qM] Eg zg))(z0:h.z 0):QE prog main ag8 #[lv] h (.bool true):=by
 refine QE.aG ahy rfl (by show 1≤143;decide) [(0,lv)] ⟨rfl,trivial⟩ ?_
 refine W.seq<|W.region rfl<|agb rfl rfl rfl<|pq<|W.seq<|W.region rfl<|qm rfl rfl rfl ?_
 refine c0 (fun h' hE hL=>VQ _ h' nums lv (hl.ext hE)) (fun v A' hv=>?_)
 obtain⟨b,s0,rfl,rfl⟩:=hv
 refine agb rfl rfl rfl<|pq<|W.seq<|W.region rfl<|qm rfl rfl rfl ?_
 refine cg (A:=[(b,wF lv 0 s0)]) .head (fun h' hE hL=>VT _ h' nums lv b 0 s0 3 (hl.ext hE) (by omega) (by omega)) (fun v A' hv=>?_)
 obtain⟨ps,Sp,k',s',hO,⟨hpl,hck⟩,hk',hsb⟩:=hv
 refine Ops.sb (F':=[(b,wF lv k' s')]++(Sp++[])) (by simpa using hsb) ?_
 have hps:=aaD (by omega) hck
 have hok:=iP.yB hps
 have h4:=hok.len
 refine qm rfl rfl rfl ?_
 refine cg (A:=[(b,wF lv k' s')]) .head (fun h' hE hL=>UC _ h' nums lv b k' s' 12 (hl.ext hE) (by omega) (by omega)) (fun v A' hv=>?_)
 obtain⟨q,s2,rfl,hq,Oh⟩:=hv
 refine Ops.sb (F':=Sp++[]) (.left .refl (Sb.trans (.nil (.cons rfl .nil)) Oh).shut) ?_
 obtain⟨q,rfl⟩:∃n:Nat,q=n:=⟨q.toNat,by omega⟩
 have Dn:q<13:=by omega
 refine agb rfl rfl rfl<|agb rfl rfl rfl<|pq ?_
 refine JU hO (fun hz hEz hsl hzs=>?_)
 obtain⟨a,cap,rfl⟩:=hsl.dA
 have hgz:=hEz.1 _ _ hg
 refine W.seq<|W.region rfl<|qm rfl rfl rfl<|qm rfl rfl rfl ?_
 refine c0 (fun h' hE hL=>aib _ h' ps _ q (hsl.ext hE)) (fun v A' hv=>?_)
 obtain⟨w,S,hv1,hw,afy⟩:=hv
 obtain⟨v1,e,o,hRe,hfo,SH,ai6,hcs⟩:=aic hps Dn
 rw[hRe]at hv1 hw
 dsimp only at hv1 hw
 subst hv1
 refine Ops.sb (F':=S++[]) (by simpa using afy) ?_
 refine qm rfl rfl rfl<|oq (bD rfl rfl rfl) rfl wn rfl rfl<|oq (bD rfl rfl rfl) rfl wn rfl rfl<|agb rfl rfl rfl<|agb rfl rfl rfl<|pq ?_
 refine agy hw.1 (fun hz2 agM hL2=>?_)
 have hwl:=hw.2 _ hL2
 obtain⟨aw,cw,rfl⟩:=hwl.dA
 rw[kT]at hwl⊢
 replace hgz:=agM.1 _ _ hgz
 replace hsl:=hsl.ext agM
 refine W.seq<|W.region rfl<|qm rfl rfl rfl<|qm rfl rfl rfl ?_
 refine c0 (fun h' hE hL=>aiH _ h' ps _ q (hsl.ext hE)) (fun v A' hv=>?_)
 obtain⟨w,S2,hv2,hw2,af4⟩:=hv
 rw[EnF,if_neg (by rw[UH hps (by omega) (by omega)];simp),Int.toNat_natCast]at hv2 hw2
 dsimp only at hv2 hw2
 subst hv2
 refine Ops.sb (F':=S2++[]) (by simpa using af4) ?_
 refine qm rfl rfl rfl<|oq (bD rfl rfl rfl) rfl wn rfl rfl<|oq (bD rfl rfl rfl) rfl wn rfl rfl<|agb rfl rfl rfl<|agb rfl rfl rfl<|pq ?_
 refine JU hw2 (fun hz3 aiX aiY _=>?_)
 obtain⟨an,cn,rfl⟩:=aiY.dA
 rw[kT]at aiY⊢
 replace hgz:=aiX.1 _ _ hgz
 replace hsl:=hsl.ext aiX
 replace hwl:=hwl.ext aiX
 have hnl:=afn (f:=enB ps (Ah (dO ps 0) q))
 clear hw2
 generalize qsL (enB ps (Ah (dO ps 0) q))=en at*
 have hd:decide (e=0)=decide ((0:Int)<(en.length:Int)):=by
  refine decide_eq_decide.2 ?_
  rcases hcs with⟨rfl,-,-,hm⟩ | ⟨rfl,-,-,rfl⟩
  ·have:=List.length_pos_of_mem hm;omega
  ·simp
 have he:e=0∨e=11:=by rcases hcs with⟨h,-⟩ | ⟨h,-⟩ <;>simp[h]
 have hve:e=11→v1.length=0:=by rcases hcs with⟨h,-⟩ | ⟨h,h2,-⟩ <;>omega
 refine W.seq ?_
 refine W.cut [(8,.slice an en.length cn),(7,I e),(6,.slice aw v1.length cw),(5,I q),(4,.slice a ps.length cap)] [] ?_ ?_
 ·refine W.seq<|W.region rfl<|qm rfl rfl rfl ?_
  refine agW (nG rfl rfl rfl) rfl ?_
  refine qm rfl rfl rfl ?_
  refine Ops.ask (fun akk=>?_) (fun akk=>?_)
  ·refine oq (aN rfl rfl) rfl (ak rfl rfl rfl) rfl rfl ?_
   refine oq (nG rfl rfl rfl) rfl (ak rfl rfl rfl) rfl rfl ?_
   refine agW (dG rfl rfl rfl) rfl ?_
   refine qm rfl rfl rfl ?_
   refine Ops.ask (fun afE=>?_) (fun afE=>?_)
   ·refine Ops.no ?_
    refine Ops.no ?_
    refine agW (dG rfl rfl rfl) rfl ?_
    refine qm rfl rfl rfl ?_
    refine Ops.no ?_
    refine Ops.no ?_
    refine Ops.no ?_
    refine agW (dG rfl rfl rfl) rfl ?_
    refine qm rfl rfl rfl ?_
    refine Ops.no ?_
    refine Ops.no ?_
    refine Ops.no ?_
    refine Ops.no ?_
    refine Ops.no ?_
    refine Ops.no ?_
    refine agW (dG rfl rfl rfl) rfl ?_
    refine pq ?_
    refine W.dW ?_
    refine W.seq<|W.region rfl<|agb rfl rfl rfl<|pq<|W.ret ?_
    exfalso;omega
   ·refine oq (aN rfl rfl) rfl (ak rfl rfl rfl) rfl rfl ?_
    refine oq (nG rfl rfl rfl) rfl (ak rfl rfl rfl) rfl rfl ?_
    refine agW (iH rfl rfl rfl) rfl ?_
    refine qm rfl rfl rfl ?_
    refine Ops.ask (fun air=>?_) (fun air=>?_)
    ·refine Ops.no ?_
     refine Ops.no ?_
     refine Ops.no ?_
     refine agW (dG rfl rfl rfl) rfl ?_
     refine qm rfl rfl rfl ?_
     refine Ops.no ?_
     refine Ops.no ?_
     refine Ops.no ?_
     refine Ops.no ?_
     refine Ops.no ?_
     refine Ops.no ?_
     refine agW (dG rfl rfl rfl) rfl ?_
     refine pq ?_
     refine W.dW ?_
     refine W.seq<|W.region rfl<|agb rfl rfl rfl<|pq<|W.ret ?_
     exfalso;omega
    ·refine oq (aN rfl rfl) rfl (ak rfl rfl rfl) rfl rfl ?_
     refine oq (dM rfl rfl) rfl (ak rfl rfl rfl) rfl rfl ?_
     refine oq (rC rfl rfl rfl) rfl (ak rfl rfl rfl) rfl rfl ?_
     refine agW (iH rfl rfl rfl) rfl ?_
     refine qm rfl rfl rfl ?_
     refine Ops.ask (fun ais=>?_) (fun ais=>?_)
     ·refine Ops.no ?_
      refine Ops.no ?_
      refine Ops.no ?_
      refine Ops.no ?_
      refine Ops.no ?_
      refine Ops.no ?_
      refine agW (dG rfl rfl rfl) rfl ?_
      refine pq ?_
      refine W.dW ?_
      refine W.seq<|W.region rfl<|agb rfl rfl rfl<|pq<|W.ret ?_
      exfalso;omega
     ·refine oq (aN rfl rfl) rfl (ak rfl rfl rfl) rfl rfl ?_
      refine oq (nD rfl rfl rfl) rfl (ak rfl rfl rfl) rfl rfl ?_
      refine oq (aN rfl rfl) rfl (ak rfl rfl rfl) rfl rfl ?_
      refine oq (dM rfl rfl) rfl (ak rfl rfl rfl) rfl rfl ?_
      refine oq (rC rfl rfl rfl) rfl (ak rfl rfl rfl) rfl rfl ?_
      refine KU (ae9 rfl rfl rfl) (congrArg Value.bool (show(!(decide (e=0)==decide ((0:Int)<(en.length:Int))))=false by rw[hd];simp)) rfl (ak rfl rfl rfl) rfl rfl ?_
      refine agW (iH rfl rfl rfl) rfl ?_
      refine pq ?_
      refine W.bZ ?_
      refine W.skip ?_
      exact⟨rfl,rfl,⟨rfl,rfl,rfl,rfl,rfl,trivial⟩,.refl⟩
  ·refine Ops.no ?_
   refine Ops.no ?_
   refine agW (iH rfl rfl rfl) rfl ?_
   refine qm rfl rfl rfl ?_
   refine oq (aN rfl rfl) rfl (ak rfl rfl rfl) rfl rfl ?_
   refine oq (nG rfl rfl rfl) rfl (ak rfl rfl rfl) rfl rfl ?_
   refine agW (iH rfl rfl rfl) rfl ?_
   refine qm rfl rfl rfl ?_
   refine Ops.ask (fun air=>?_) (fun air=>?_)
   ·refine Ops.no ?_
    refine Ops.no ?_
    refine Ops.no ?_
    refine agW (dG rfl rfl rfl) rfl ?_
    refine qm rfl rfl rfl ?_
    refine Ops.no ?_
    refine Ops.no ?_
    refine Ops.no ?_
    refine Ops.no ?_
    refine Ops.no ?_
    refine Ops.no ?_
    refine agW (dG rfl rfl rfl) rfl ?_
    refine pq ?_
    refine W.dW ?_
    refine W.seq<|W.region rfl<|agb rfl rfl rfl<|pq<|W.ret ?_
    exfalso;omega
   ·refine oq (aN rfl rfl) rfl (ak rfl rfl rfl) rfl rfl ?_
    refine oq (dM rfl rfl) rfl (ak rfl rfl rfl) rfl rfl ?_
    refine oq (rC rfl rfl rfl) rfl (ak rfl rfl rfl) rfl rfl ?_
    refine agW (iH rfl rfl rfl) rfl ?_
    refine qm rfl rfl rfl ?_
    refine Ops.ask (fun ais=>?_) (fun ais=>?_)
    ·refine Ops.no ?_
     refine Ops.no ?_
     refine Ops.no ?_
     refine Ops.no ?_
     refine Ops.no ?_
     refine Ops.no ?_
     refine agW (dG rfl rfl rfl) rfl ?_
     refine pq ?_
     refine W.dW ?_
     refine W.seq<|W.region rfl<|agb rfl rfl rfl<|pq<|W.ret ?_
     exfalso;omega
    ·refine oq (aN rfl rfl) rfl (ak rfl rfl rfl) rfl rfl ?_
     refine oq (nD rfl rfl rfl) rfl (ak rfl rfl rfl) rfl rfl ?_
     refine oq (aN rfl rfl) rfl (ak rfl rfl rfl) rfl rfl ?_
     refine oq (dM rfl rfl) rfl (ak rfl rfl rfl) rfl rfl ?_
     refine oq (rC rfl rfl rfl) rfl (ak rfl rfl rfl) rfl rfl ?_
     refine KU (ae9 rfl rfl rfl) (congrArg Value.bool (show(!(decide (e=0)==decide ((0:Int)<(en.length:Int))))=false by rw[hd];simp)) rfl (ak rfl rfl rfl) rfl rfl ?_
     refine agW (iH rfl rfl rfl) rfl ?_
     refine pq ?_
     refine W.bZ ?_
     refine W.skip ?_
     exact⟨rfl,rfl,⟨rfl,rfl,rfl,rfl,rfl,trivial⟩,.refl⟩
 ·refine W.seq<|W.region rfl<|qm rfl rfl rfl<|qm rfl rfl rfl<|qm rfl rfl rfl ?_
  refine cp (fun h' hE hL=>afB _ h' ps _ _ q v1 (hsl.ext hE) hok Dn (hwl.ext hE) (by omega)) ?_
  rw[show afR ps q v1= .tuple #[I o,.bool true] by rw[afR,hfo]]
  refine qm rfl rfl rfl<|oq (bD rfl rfl rfl) rfl wn rfl rfl<|oq (bD rfl rfl rfl) rfl wn rfl rfl<|agb rfl rfl rfl<|agb rfl rfl rfl<|pq<|W.seq ?_
  refine W.cut [(8,.slice an en.length cn),(7,I e),(6,.slice aw v1.length cw),(5,I q),(4,.slice a ps.length cap)] [] ?_ ?_
  ·refine W.seq<|W.region rfl<|qm rfl rfl rfl ?_
   refine agW (nD rfl rfl rfl) rfl ?_
   refine qm rfl rfl rfl ?_
   refine Ops.ask (fun aiZ=>?_) (fun aiZ=>?_)
   ·refine oq (aN rfl rfl) rfl (ak rfl rfl rfl) rfl rfl ?_
    refine oq (xU rfl rfl) rfl (ak rfl rfl rfl) rfl rfl ?_
    refine oq (aN rfl rfl) rfl (ak rfl rfl rfl) rfl rfl ?_
    refine Ops.RV (fun ait=>?_) (fun ait=>?_)
    ·refine Ops.no ?_
     refine Ops.no ?_
     refine Ops.no ?_
     refine Ops.no ?_
     refine oq (dG rfl rfl rfl) rfl (ak rfl rfl rfl) rfl rfl ?_
     refine oq (aN rfl rfl) rfl (ak rfl rfl rfl) rfl rfl ?_
     refine Ops.no ?_
     refine Ops.no ?_
     refine Ops.no ?_
     refine Ops.no ?_
     refine oq (dG rfl rfl rfl) rfl (ak rfl rfl rfl) rfl rfl ?_
     refine agW (dG rfl rfl rfl) rfl ?_
     refine qm rfl rfl rfl ?_
     refine Ops.no ?_
     refine Ops.no ?_
     refine Ops.no ?_
     refine Ops.noU ?_
     refine Ops.noU ?_
     refine Ops.noU ?_
     refine Ops.no ?_
     refine agW (dG rfl rfl rfl) rfl ?_
     refine pq ?_
     refine W.dW ?_
     refine W.seq<|W.region rfl<|agb rfl rfl rfl<|pq<|W.ret ?_
     exfalso
     first | omega | exact absurd ait (by decide)
    ·refine oq (aN rfl rfl) rfl (ak rfl rfl rfl) rfl rfl ?_
     refine oq (aN rfl rfl) rfl (ak rfl rfl rfl) rfl rfl ?_
     refine cp (g:=some _) (fun h' hE hL=>ah6 _ h' ps _ o (hsl.ext hE) (by omega)) ?_
     have hto:dY ps o=true∧o∈en:=by
      rcases hcs with⟨-,h1,-,h2⟩ | ⟨h1,-⟩
      ·exact⟨h1,h2⟩
      ·rw[h1]at aiZ;cases aiZ
     rw[hto.1]
     refine oq (xU rfl rfl) rfl (ak rfl rfl rfl) rfl rfl ?_
     refine oq (iH rfl rfl rfl) rfl (ak rfl rfl rfl) rfl rfl ?_
     refine oq (aN rfl rfl) rfl (ak rfl rfl rfl) rfl rfl ?_
     refine oq (aN rfl rfl) rfl (ak rfl rfl rfl) rfl rfl ?_
     refine oq (aN rfl rfl) rfl (ak rfl rfl rfl) rfl rfl ?_
     refine c0 (fun h' hE hL=>afl _ h' _ _ o (aiY.ext hE) (by rw[kT];omega)) (fun v A' hv=>?_)
     obtain⟨fi,rfl,hfi,hA⟩:=hv
     have akH:0≤fi:=hfi.2 (List.mem_map.2 ⟨o,hto.2,rfl⟩)
     refine Ops.sb (F':=[]) (.nil (hA.app .nil)) ?_
     refine oq (fO rfl rfl rfl) rfl (ak rfl rfl rfl) rfl rfl ?_
     refine oq (iH rfl rfl rfl) rfl (ak rfl rfl rfl) rfl rfl ?_
     refine agW (dG rfl rfl rfl) rfl ?_
     refine qm rfl rfl rfl ?_
     refine Ops.ask (fun ajq=>?_) (fun ajq=>?_)
     ·refine Ops.no ?_
      refine Ops.no ?_
      refine Ops.no ?_
      refine Ops.noU ?_
      refine Ops.noU ?_
      refine Ops.noU ?_
      refine Ops.no ?_
      refine agW (dG rfl rfl rfl) rfl ?_
      refine pq ?_
      refine W.dW ?_
      refine W.seq<|W.region rfl<|agb rfl rfl rfl<|pq<|W.ret ?_
      exfalso
      first | omega | exact absurd ait (by decide)
     ·refine oq (aN rfl rfl) rfl (ak rfl rfl rfl) rfl rfl ?_
      refine oq (nG rfl rfl rfl) rfl (ak rfl rfl rfl) rfl rfl ?_
      refine oq (aN rfl rfl) rfl (ak rfl rfl rfl) rfl rfl ?_
      refine Ops.ask (fun aiu=>?_) (fun aiu=>?_)
      ·refine oq (aN rfl rfl) rfl (ak rfl rfl rfl) rfl rfl ?_
       refine oq (dM rfl rfl) rfl (ak rfl rfl rfl) rfl rfl ?_
       refine oq (rC rfl rfl rfl) rfl (ak rfl rfl rfl) rfl rfl ?_
       refine oq (dG rfl rfl rfl) rfl (ak rfl rfl rfl) rfl rfl ?_
       refine agW (iH rfl rfl rfl) rfl ?_
       refine pq ?_
       refine W.bC rfl (fun c91=>?_) (fun c91=>?_)
       ·refine W.seq<|W.region rfl<|agb rfl rfl rfl<|pq<|W.ret ?_
        exfalso
        first | omega | exact absurd ait (by decide)
       ·refine W.skip ?_
        exact⟨rfl,rfl,⟨rfl,rfl,rfl,rfl,rfl,trivial⟩,by first | exact .refl | exact .nil (by assumption)⟩
      ·refine Ops.no ?_
       refine Ops.no ?_
       refine Ops.no ?_
       refine oq (iH rfl rfl rfl) rfl (ak rfl rfl rfl) rfl rfl ?_
       refine agW (iH rfl rfl rfl) rfl ?_
       refine pq ?_
       refine W.bZ ?_
       refine W.skip ?_
       exact⟨rfl,rfl,⟨rfl,rfl,rfl,rfl,rfl,trivial⟩,by first | exact .refl | exact .nil (by assumption)⟩
   ·refine Ops.no ?_
    refine Ops.no ?_
    refine Ops.no ?_
    refine Ops.noU ?_
    refine Ops.noU ?_
    refine Ops.noU ?_
    refine Ops.noU ?_
    refine Ops.no ?_
    refine Ops.no ?_
    refine Ops.noU ?_
    refine Ops.noU ?_
    refine Ops.noU ?_
    refine Ops.noU ?_
    refine Ops.no ?_
    refine agW (iH rfl rfl rfl) rfl ?_
    refine qm rfl rfl rfl ?_
    refine oq (aN rfl rfl) rfl (ak rfl rfl rfl) rfl rfl ?_
    refine oq (nG rfl rfl rfl) rfl (ak rfl rfl rfl) rfl rfl ?_
    refine oq (aN rfl rfl) rfl (ak rfl rfl rfl) rfl rfl ?_
    refine Ops.ask (fun aiu=>?_) (fun aiu=>?_)
    ·refine oq (aN rfl rfl) rfl (ak rfl rfl rfl) rfl rfl ?_
     refine oq (dM rfl rfl) rfl (ak rfl rfl rfl) rfl rfl ?_
     refine oq (rC rfl rfl rfl) rfl (ak rfl rfl rfl) rfl rfl ?_
     refine oq (dG rfl rfl rfl) rfl (ak rfl rfl rfl) rfl rfl ?_
     refine agW (iH rfl rfl rfl) rfl ?_
     refine pq ?_
     refine W.bC rfl (fun c91=>?_) (fun c91=>?_)
     ·refine W.seq<|W.region rfl<|agb rfl rfl rfl<|pq<|W.ret ?_
      exfalso
      first | omega | exact absurd ait (by decide)
     ·refine W.skip ?_
      exact⟨rfl,rfl,⟨rfl,rfl,rfl,rfl,rfl,trivial⟩,by first | exact .refl | exact .nil (by assumption)⟩
    ·refine Ops.no ?_
     refine Ops.no ?_
     refine Ops.no ?_
     refine oq (iH rfl rfl rfl) rfl (ak rfl rfl rfl) rfl rfl ?_
     refine agW (iH rfl rfl rfl) rfl ?_
     refine pq ?_
     refine W.bZ ?_
     refine W.skip ?_
     exact⟨rfl,rfl,⟨rfl,rfl,rfl,rfl,rfl,trivial⟩,by first | exact .refl | exact .nil (by assumption)⟩
  ·refine W.seq<|W.seq<|W.region rfl<|agb rfl rfl rfl<|pq<|W.block ?_
   refine W.loop (σ:=Nat) (fun n=>n≤6) (fun n=>[(12,I n),(7,I e),(6,.slice aw v1.length cw),(5,I q),(4,.slice a ps.length cap)]) (fun _=>[]) (fun n=>6-n) 0 (by omega) ⟨rfl,rfl,rfl,rfl,rfl,trivial⟩ TW ?_
   rintro n hn6
   refine W.seq<|W.seq ?_
   refine W.aiB (σ:=Bool) (fun b=>b=true↔n≤5∧(e≠0∨n≤v1.length)) (fun b=>[(103,.bool b),(12,I n),(7,I e),(6,.slice aw v1.length cw),(5,I q),(4,.slice a ps.length cap)]) (fun _=>[]) ?_ ?_
   ·refine W.region rfl<|qm rfl rfl rfl ?_
    refine agW (Lr rfl rfl rfl) rfl ?_
    refine qm rfl rfl rfl ?_
    refine Ops.ask (fun ajr=>?_) (fun ajr=>?_)
    ·refine oq (aN rfl rfl) rfl (ak rfl rfl rfl) rfl rfl ?_
     refine oq (nG rfl rfl rfl) rfl (ak rfl rfl rfl) rfl rfl ?_
     refine oq (aN rfl rfl) rfl (ak rfl rfl rfl) rfl rfl ?_
     refine Ops.ask (fun ajs=>?_) (fun ajs=>?_)
     ·refine Ops.no ?_
      refine Ops.no ?_
      refine Ops.no ?_
      refine Ops.no ?_
      refine oq (dG rfl rfl rfl) rfl (ak rfl rfl rfl) rfl rfl ?_
      refine agW (dG rfl rfl rfl) rfl ?_
      refine Ops.nil ?_
      refine⟨rfl,rfl,_,?_,⟨rfl,rfl,rfl,rfl,rfl,rfl,trivial⟩,.refl⟩
      first | (rw[decide_eq_true_iff];omega) | (constructor <;>intro h <;>first | rfl | omega | (exfalso;omega) | (exfalso;cases h;done))
     ·refine oq (aN rfl rfl) rfl (ak rfl rfl rfl) rfl rfl ?_
      refine oq (aN rfl rfl) rfl (ak rfl rfl rfl) rfl rfl ?_
      refine oq (dM rfl rfl) rfl (ak rfl rfl rfl) rfl rfl ?_
      refine oq (Lr rfl rfl rfl) rfl (ak rfl rfl rfl) rfl rfl ?_
      refine oq (iH rfl rfl rfl) rfl (ak rfl rfl rfl) rfl rfl ?_
      refine agW (dG rfl rfl rfl) rfl ?_
      refine Ops.nil ?_
      refine⟨rfl,rfl,_,?_,⟨rfl,rfl,rfl,rfl,rfl,rfl,trivial⟩,.refl⟩
      first | (rw[decide_eq_true_iff];omega) | (constructor <;>intro h <;>first | rfl | omega | (exfalso;omega) | (exfalso;cases h;done))
    ·refine Ops.no ?_
     refine Ops.no ?_
     refine Ops.no ?_
     refine Ops.noU ?_
     refine Ops.noU ?_
     refine Ops.noU ?_
     refine Ops.noU ?_
     refine Ops.no ?_
     refine agW (iH rfl rfl rfl) rfl ?_
     refine Ops.nil ?_
     refine⟨rfl,rfl,_,?_,⟨rfl,rfl,rfl,rfl,rfl,rfl,trivial⟩,.refl⟩
     first | (rw[decide_eq_true_iff];omega) | (constructor <;>intro h <;>first | rfl | omega | (exfalso;omega) | (exfalso;cases h;done))
   ·intro B10 aiG
    refine W.cond rfl (fun ajt=>?_) (fun ajt=>?_)
    ·obtain⟨hn5,akI⟩:=aiG.1 ajt
     refine W.skip<|aA<|W.seq<|W.block<|W.seq<|W.region rfl<|qm rfl rfl rfl<|qm rfl rfl rfl<|qm rfl rfl rfl ?_
     refine c0 (fun h' hE hL=>ag0 _ h' ps _ q n (hsl.ext hE) hok Dn (by omega)) (fun v2 A' hv=>?_)
     obtain⟨O,us,B,hO2,hB,af4⟩:=hv
     refine Ops.sb (F':=O++(B++[])) (by simpa using af4) ?_
     refine agb rfl rfl rfl<|pq ?_
     obtain⟨sa,sc,rfl⟩:=hO2.dA
     refine JU hO2 (fun hz3 hE3 ahe hzO=>?_)
     refine agG hB (fun hz4 hE4 hslB=>?_)
     replace ahe:=ahe.ext hE4
     have ai7:=hE4.1 _ _ (hE3.1 _ _ hgz)
     have aiI:=hsl.ext (hE3.trans hE4)
     have aiJ:=hwl.ext (hE3.trans hE4)
     have hul:=hB.len
     rw[List.length_map]at hul
     have hub:(afw ps q n).length≤1024:=by
      have:=agc (m:=ps.length) (k:=n) h4 hn5
      rw[afL,List.length_map]at this
      exact Nat.le_trans (List.length_filter_le ..) this
     refine W.seq<|W.region rfl<|agb rfl rfl rfl<|pq<|W.block ?_
     refine W.loop (σ:=Nat) (fun i=>i≤us.length∧∀u∈(afw ps q n).take i,(match afd ps q u with | some o=>dY ps o | none=>false)=false) (fun i=>[(14,I i),(13,.slice sa us.length sc),(12,I n),(7,I e),(6,.slice aw v1.length cw),(5,I q),(4,.slice a ps.length cap)]) (fun _=>[]) (fun i=>us.length-i) 0 ⟨Nat.zero_le _,by simp⟩ ⟨rfl,rfl,rfl,rfl,rfl,rfl,rfl,trivial⟩ TW ?_
     rintro i ⟨hi,hno⟩
     refine W.seq<|W.seq<|W.region rfl<|qm rfl rfl rfl<|qm rfl rfl rfl ?_
     refine agW (dM rfl rfl) rfl ?_
     refine agW (fO rfl rfl rfl) rfl ?_
     refine pq ?_
     refine W.bC rfl (fun akm=>?_) (fun akm=>?_)
     ·have hil:i<us.length:=by omega
      obtain⟨u,hu,-⟩:=has (show i<(afw ps q n).length by omega)
      obtain⟨s,hs0,-⟩:=has hil
      obtain⟨hun,eu,heu⟩:=afO.1 (List.mem_of_getElem? hu)
      have hsu:=(hslB i s (zs u) hs0 (by rw[List.getElem?_map,hu];rfl)).1
      obtain⟨bo,aiK,co,Eo,fzo,hvo,hbo,-,-,hzo⟩:=ahe.at hs0
      cases hvo
      have hco:co[aiK+i*1]? =some (.slice s.a s.n s.cap):=hzo 0 (by decide)
      refine W.skip<|aA<|W.seq<|W.block<|W.seq<|W.region rfl<|qm rfl rfl rfl<|qm rfl rfl rfl<|qm rfl rfl rfl<|qm rfl rfl rfl ?_
      refine ag3 rfl ?_
      refine agX rfl ?_
      refine cp (fun h' hE hL=>afB _ h' ps _ s.val q u (aiI.ext hE) hok Dn (hsu.ext hE) (by omega)) ?_
      rw[show afR ps q u= .tuple #[I eu,.bool true] by rw[afR,heu]]
      refine qm rfl rfl rfl<|oq (bD rfl rfl rfl) rfl wn rfl rfl<|oq (bD rfl rfl rfl) rfl wn rfl rfl<|agb rfl rfl rfl<|agb rfl rfl rfl<|pq<|W.seq<|W.region rfl<|qm rfl rfl rfl ?_
      refine qm rfl rfl rfl ?_
      refine cp (fun h' hE hL=>ah6 _ h' ps _ eu (aiI.ext hE) (by omega)) ?_
      refine pq ?_
      refine W.cond rfl (fun ai0=>?_) (fun ai0=>?_)
      ·obtain⟨w0,hw0,hwv⟩:=agI h4 (T:=fun k=>dY ps k) (lo:=0) Dn (by omega) (by omega) hu heu ai0 hno
       rw[aip]at hw0
       obtain⟨rfl,hvu⟩:e=0∧v1=u:=by
        rcases hcs with⟨he,-,hf,-⟩ | ⟨-,-,hf,-⟩
        ·rw[hf]at hw0
         cases hw0
         exact⟨he,hwv (by simp only;omega)⟩
        ·rw[hf]at hw0;cases hw0
       refine W.seq<|W.region rfl<|qm rfl rfl rfl ?_
       refine agW (nD rfl rfl rfl) rfl ?_
       refine qm rfl rfl rfl ?_
       refine Ops.ask (fun aie=>?_) (fun aie=>?_)
       ·refine oq (aN rfl rfl) rfl (ak rfl rfl rfl) rfl rfl ?_
        refine oq (aN rfl rfl) rfl (ak rfl rfl rfl) rfl rfl ?_
        refine oq (aN rfl rfl) rfl (ak rfl rfl rfl) rfl rfl ?_
        first | refine oq (G_ rfl rfl rfl) rfl (ak rfl rfl rfl) rfl rfl ?_ | refine oq (o_ rfl rfl rfl) rfl (ak rfl rfl rfl) rfl rfl ?_
        refine oq (iQ rfl rfl) rfl (ak rfl rfl rfl) rfl rfl ?_
        refine cp (fun h' hE hL=>Iw _ h' (zs v1) _ _ (aiJ.ext hE) (hvu▸hsu.ext hE) (by rw[kT];omega)) ?_
        refine agW (dG rfl rfl rfl) rfl ?_
        refine qm rfl rfl rfl ?_
        refine Ops.RV (fun ahZ=>?_) (fun ahZ=>?_)
        ·refine cp (fun h' hE hL=>VW _ h' hS hmb _ _ (hE.1 _ _ (by assumption))) ?_
         refine agW (dG rfl rfl rfl) rfl ?_
         refine agb rfl rfl rfl<|pq<|W.ret<|cZ<|aY<|aY<|cZ<|cZ<|aY ?_
         refine aY<|cZ<|aY ?_
         first | exact lvq rfl | exact absurd rfl aie | exact absurd rfl ahZ | cases ahZ
        ·refine Ops.no ?_
         refine agW (iH rfl rfl rfl) rfl ?_
         refine agb rfl rfl rfl<|pq<|W.ret<|cZ<|aY<|aY<|cZ<|cZ<|aY ?_
         refine aY<|cZ<|aY ?_
         first | exact lvq rfl | exact absurd rfl aie | exact absurd rfl ahZ | cases ahZ
       ·refine Ops.no ?_
        refine Ops.no ?_
        refine Ops.no ?_
        refine Ops.no ?_
        refine Ops.no ?_
        refine Ops.no ?_
        refine agW (iH rfl rfl rfl) rfl ?_
        refine qm rfl rfl rfl ?_
        refine Ops.no ?_
        refine agW (iH rfl rfl rfl) rfl ?_
        refine agb rfl rfl rfl<|pq<|W.ret<|cZ<|aY<|aY<|cZ<|cZ<|aY ?_
        refine aY<|cZ<|aY ?_
        first | exact lvq rfl | exact absurd rfl aie | exact absurd rfl ahZ | cases ahZ
      ·refine W.skip<|dI<|aA<|W.region rfl<|qm rfl rfl rfl ?_
       refine ag1 rfl ?_
       refine agb rfl rfl rfl<|pq ?_
       refine⟨rfl,i+1,⟨hil,fun x hx=>?_⟩,by omega,⟨rfl,rfl,rfl,rfl,rfl,rfl,rfl,trivial⟩,TW⟩
       rw[List.take_add_one,hu]at hx
       rcases List.mem_append.1 hx with hx | hx
       ·exact hno x hx
       ·simp only[Option.toList_some,List.mem_singleton]at hx
        subst hx;rw[heu];simpa using ai0
     ·refine W.exit<|bP<|bP<|gG<|dI<|aA<|W.region rfl<|qm rfl rfl rfl ?_
      refine ag1 rfl ?_
      refine agb rfl rfl rfl<|pq ?_
      exact⟨rfl,n+1,by omega,by omega,⟨rfl,rfl,rfl,rfl,rfl,trivial⟩,TW⟩
    ·refine W.exit<|bP<|bP<|gG<|aA<|W.seq<|W.region rfl ?_
     refine cp (fun h' hE hL=>VW _ h' hS hmb _ _ (hE.1 _ _ (by assumption))) ?_
     refine agb rfl rfl rfl<|pq<|W.ret ?_
     exact lvq rfl
end Go.aS

/- SyrupShortest's card. Conditions: as the card says; over the given program. -/
namespace Go.Proofs.YtkkdgffaohidnaaGreatDoor
open Go Go.aS
set_option maxRecDepth 100000
set_option maxHeartbeats 4000000
theorem ahX:joinedFacts prog ag8 ag9 Rows.syrupShortestSpec Rows.syrupShortestRow=true:=by
 unfold joinedFacts
 repeat' with_reducible refine Bool.and_eq_true_iff.2 ⟨?_,?_⟩
 all_goals first
  | with_reducible exact aci
  | (with_reducible refine makeT ?_;kernel_rfl)
  | (with_reducible refine aeb ?_;kernel_rfl)
  | (as_aux_lemma=>kernel_rfl)
theorem ahT:prog.funcNamed Rows.syrupShortestRow.func=some ag8:=by kernel_rfl
theorem ah2:prog.mainIs=some (true, "dbc29bbb9727fbebaf7429f7266f9d82b5a02ec0969210b724e1ed2dac66cc8d".toList):=ad9
theorem ah3:true=Rows.syrupShortestRow.goesBy prog:=by kernel_rfl
theorem ahY:true=prog.looks []:=by kernel_rfl
theorem ah5:Rows.SyrupShortestSaid:=
 OpenClaim.holds_of_wide_leaving_time ag8 ag9 rfl rfl rfl rfl rfl rfl rfl ⟨rfl,rfl,rfl,rfl,rfl⟩ rfl rfl rfl rfl rfl ahT ahy ahX
  (of_decide_eq_true (by kernel_rfl)) (by unfold Func.isWrapper;first | (rw[if_pos (by decide+kernel)];kernel_rfl) | (rw[if_neg (by decide+kernel)];exact⟨rfl,rfl⟩))
  (
   fun os started H enc _ F=>ad7 (s:=Rows.syrupShortestSpec) os started H enc ahy (by kernel_rfl) (by kernel_rfl) (by kernel_rfl) (by kernel_rfl) (by kernel_rfl) rfl (fun _=>rfl)
   (OB (enc:=enc) (C:=Tryz.checked) (os:=os) (X:=fun w _=>laidMetH prog J9 w) (laidWorld os) #[.slice none 0 0] 8 rfl (by kernel_rfl) (by kernel_rfl) (by kernel_rfl) (by kernel_rfl) (by kernel_rfl) (laidWorld_met os _))
   (fun main hS hmb h nums lv Eg zg hl hg z0=>ah4 main hS hmb h nums lv Eg zg hl hg z0) F)

theorem SyrupShortest_card:Rows.SyrupShortestCardSaid:=
 VZ .later [] [.handle] true (true, "dbc29bbb9727fbebaf7429f7266f9d82b5a02ec0969210b724e1ed2dac66cc8d") true
  ah5 (fun _ h=>by cases h) (by kernel_rfl) (fun _ h=>by cases h) syrupShortest_row_tie rfl ⟨rfl,rfl⟩ ah2 rfl
  (
   fun f fn hf hfn=>by
   obtain rfl:f=ag8:=(Option.some.inj (ahT.symm.trans hf)).symm
   obtain rfl:fn=ag9:=(Option.some.inj (ahy.symm.trans hfn)).symm
   exact⟨ahY,fun j t ht=>by
    rw[show(ag9).params= #[nS] by kernel_rfl]at ht
    have h3:t=nS:=by
     rcases j with _ | j
     ·simpa using ht.symm
     ·simp at ht
    subst h3
    exact(show prog.wantsStandIn nS=false by kernel_rfl)⟩)
  ah3
#print axioms SyrupShortest_card
end Go.Proofs.YtkkdgffaohidnaaGreatDoor
