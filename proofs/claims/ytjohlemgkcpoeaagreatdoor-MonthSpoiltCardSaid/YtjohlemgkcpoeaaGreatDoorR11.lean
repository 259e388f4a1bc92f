/- Ways through a graph of few nodes: the first ways to each node, searched in breadth; that they are the first ones. Conditions: none; no program in sight. (And 21 texts more.) -/
import Derived.Test.YtjohlemgkcpoeaaGreatDoorR10
import Init
import Derived.Test.YtjohlemgkcpoeaaGreatDoorR07
import Derived.Test.YtjohlemgkcpoeaaGreatDoorR06
import Derived.Test.YtjohlemgkcpoeaaGreatDoorR08
import Derived.Conc.EntryLaws
import Derived.Conc.MarkLaws
import Derived.Conc.AtomicLaws2
import Derived.Conc.ClockLaws
import Derived.Test.YtjohlemgkcpoeaaGreatDoorR02
import Derived.Conc.SmallLaws
import Derived.Laws.LoneSync
import Derived.Test.YtjohlemgkcpoeaaGreatDoorR09
set_option linter.unusedVariables false
set_option linter.unusedSimpArgs false
set_option linter.unusedSectionVars false
set_option maxRecDepth 100000
set_option maxHeartbeats 4000000

open Go.Proofs.Tryz
namespace Go.jc
set_option linter.unusedVariables false
abbrev Gph:=Nat->List (Nat×Nat)
def Gg:List Nat->Nat:=fun l=>l.foldl (fun a p=>5*a+(p+1)) 0
theorem ajf:Gg []=0:=rfl
theorem vV(l:List Nat)(p:Nat):Gg (l++[p])=5*Gg l+(p+1):=by simp[Gg,List.foldl_append]

def Fz(g:Gph):Nat->List Nat->Nat->Prop
 | k,[],e=>k=e
 | k,p::r,e=>∃o,(p,o)∈g k/\Fz g o r e
theorem O9{g:Gph}:∀{l l':List Nat} {k e:Nat},Fz g k (l++l') e↔∃m,Fz g k l m/\Fz g m l' e
 | [],l',k,e=>by simp[Fz]
 | p::r,l',k,e=>by
  simp only[List.cons_append,Fz];constructor
  ·rintro⟨o,h1,h2⟩;obtain⟨m,h3,h4⟩:=O9.1 h2;exact⟨m,⟨o,h1,h3⟩,h4⟩
  rintro⟨m,⟨o,h1,h3⟩,h4⟩;exact⟨o,h1,O9.2 ⟨m,h3,h4⟩⟩
variable{A F:ah}{Fin:Goroutine->Hp->(Nat->Prop)->Prop}{M:Nat->Prop}{P:Program}{U:Obj->ah}{a b i k m p t:Nat}{args c ca zc:Array Value}{es:Array Event}{f:FuncId}{g:Gph}{h:Hp}{j met:List Nat}{o o':Obj}{y:Operand}{z:Value}{γ:GP}
theorem Uw{l:List Nat}{e:Nat}:Fz g k (l++[p]) e↔∃m,Fz g k l m/\(p,e)∈g m:=by
 rw[O9];simp only[Fz];constructor
 ·rintro⟨m,h,o,h1,rfl⟩;exact⟨m,h,h1⟩
 rintro⟨m,h,h1⟩;exact⟨m,h,e,h1,rfl⟩

structure ae4(g:Gph):Prop where
 asc:∀k,(g k).Pairwise fun a b=>a.1<b.1
 low:∀k p o,(p,o)∈g k->p<4

theorem ae4.fn(h:ae4 g){o o':Nat}(h1:(p,o)∈g k)(h2:(p,o')∈g k):o=o':=by
 have:=h.asc k;revert this h1 h2;generalize g k=l;intro h1 h2 hp
 induction l with
 | nil=>cases h1
 | cons a l ih=>
  rw[List.pairwise_cons]at hp;rcases bU.1 h1 with e1 | h1'
  ·rcases bU.1 h2 with e2 | h2'
   ·rw[<-e1]at e2;exact(Prod.mk.inj e2).2.symm
   have:=hp.1 _ h2';rw[<-e1]at this;simp at this
  rcases bU.1 h2 with e2 | h2'
  ·have:=hp.1 _ h1';rw[<-e2]at this;simp at this
  exact ih h1' h2' hp.2

theorem amh{α:Type}{motive:List α->Prop}(l:List α)(nil:motive [])(snoc:∀(l:List α) (p:α),motive l->motive (l++[p])):motive l:=by
 have key:∀n (l:List α),l.length=n->motive l:=by
  intro n
  induction n with
  | zero=>intro l h;rw[jy.1 h];exact nil
  | succ n ih=>
   intro l h;rcases List.eq_nil_or_concat l with rfl | ⟨r,p,rfl⟩
   ·cases h
   rw[List.concat_eq_append]at*;exact snoc r p (ih r (by simpa using h))
 exact key _ l O
abbrev Wy:=List Nat×Nat
def P9(way:List Nat):List (Nat×Nat)->List Nat->List Wy->List Nat×List Wy
 | [],met,todo=>(met,todo)
 | (p,o)::r,met,todo=>if o∈met then P9 way r met todo else P9 way r (o::met) (todo++[(way++[p],o)])
structure aa8(g:Gph)(q:Nat)(done:List Wy)(met:List Nat)(todo:List Wy):Prop where
 path:∀w∈done++todo,Fz g q w.1 w.2
 srt:(done++todo).Pairwise fun a b=>Gg a.1<Gg b.1
 ajg:∀o,o∈met↔∃w∈done++todo,w.1≠[]/\w.2=o
 next:∀w∈done,∀p o,(p,o)∈g w.2->∃w'∈done++todo,w'.1≠[]/\w'.2=o/\Gg w'.1<=Gg (w.1++[p])
 root:([],q)∈done++todo
 par:∀u∈todo,u.1≠[]->∃w∈done,∃p,u.1=w.1++[p]/\p<4
 ndm:met.Nodup
 len:∀u∈done++todo,u.1.length<=met.length

structure Lc(g:Gph)(q:Nat)(done:List Wy)(w:Wy)(gone:List (Nat×Nat))(met:List Nat)(todo:List Wy):Prop where
 path:∀u∈done++w::todo,Fz g q u.1 u.2
 srt:(done++w::todo).Pairwise fun a b=>Gg a.1<Gg b.1
 ajg:∀o,o∈met↔∃u∈done++w::todo,u.1≠[]/\u.2=o
 next:∀u∈done,∀p o,(p,o)∈g u.2->∃w'∈done++w::todo,w'.1≠[]/\w'.2=o/\Gg w'.1<=Gg (u.1++[p])
 ae5:∀p o,(p,o)∈gone->∃w'∈done++w::todo,w'.1≠[]/\w'.2=o/\Gg w'.1<=Gg (w.1++[p])
 root:([],q)∈done++w::todo
 par:∀u∈todo,u.1≠[]->(∃x∈done,∃p,u.1=x.1++[p]/\p<4)\/∃p,u.1=w.1++[p]/\∃o,(p,o)∈gone
 ndm:met.Nodup
 len:∀u∈done++w::todo,u.1.length<=met.length

theorem Lc.steps{g:Gph}(hg:ae4 g){q:Nat}{done:List Wy}{w:Wy}:∀{r gone:List (Nat×Nat)} {met:List Nat} {todo:List Wy},gone++r=g w.2->Lc g q done w gone met todo->
  Lc g q done w (g w.2) (P9 w.1 r met todo).1 (P9 w.1 r met todo).2
 | [],gone,met,todo,e,H=>by
  rw[List.append_nil]at e;subst e;exact H
 | (
    p,o)::r,gone,met,todo,e,H=>by
  have atA:(p,o)∈g w.2:=by rw[<-e];simp
  have uN:=hg.low _ _ _ atA
  have atB:∀p' o',(p',o')∈gone->p'<p:=fun p' o' h'=>by
   have:=hg.asc w.2;rw[<-e,List.pairwise_append]at this;exact this.2.2 _ h' _ (bT ..)
  have e':(gone++[(p,o)])++r=g w.2:=by rw[eF];exact e
  unfold P9;split
  ·rename_i hm;refine Lc.steps hg e' {H with ae5:=fun p' o' h'=>?_,par:=fun u hu hn=>(H.par u hu hn).imp id fun⟨p',h1,o',h2⟩=>⟨p',h1,o',by simp[h2]⟩};rcases dh.1 h' with h' | h'
   ·exact H.ae5 p' o' h'
   obtain⟨rfl,rfl⟩:=Prod.mk.inj (dP.1 h');obtain⟨u,h1,h2,h3⟩:=(H.ajg o').1 hm;refine⟨u,h1,h2,h3,?_⟩;rw[vV];rcases dh.1 h1 with h1 | h1
   ·have:=H.srt;rw[List.pairwise_append]at this;have:=this.2.2 u h1 w (bT ..);omega
   rcases bU.1 h1 with rfl | h1
   ·omega
   rcases H.par u h1 h2 with⟨x,h4,p2,h5,h6⟩ | ⟨p2,h5,o2,h6⟩
   ·rw[h5,vV];have:=H.srt;rw[List.pairwise_append]at this;have:=this.2.2 x h4 w (bT ..);omega
   rw[h5,vV];have:=atB p2 o2 h6;omega
  rename_i hm
  have mem_iff:∀u,u∈done++w::(todo++[(w.1++[p],o)])↔u∈done++w::todo\/u=(w.1++[p],o):=fun u=>by
   simp only[dh,bU,List.not_mem_nil,or_false];constructor
   ·rintro(h | h | h | h)
    ·exact .inl (.inl h)
    ·exact .inl (.inr (.inl h))
    ·exact .inl (.inr (.inr h))
    exact .inr h
   rintro((h | h | h) | h)
   ·exact .inl h
   ·exact .inr (.inl h)
   ·exact .inr (.inr (.inl h))
   exact .inr (.inr (.inr h))
  have big:∀u∈done++w::todo,Gg u.1<Gg (w.1++[p]):=fun u hu=>by
   rw[vV];rcases dh.1 hu with h1 | h1
   ·have:=H.srt;rw[List.pairwise_append]at this;have:=this.2.2 u h1 w (bT ..);omega
   rcases bU.1 h1 with rfl | h1
   ·omega
   by_cases h2:u.1=[]
   ·rw[h2,ajf];omega
   rcases H.par u h1 h2 with⟨x,h4,p2,h5,h6⟩ | ⟨p2,h5,o2,h6⟩
   ·rw[h5,vV];have:=H.srt;rw[List.pairwise_append]at this;have:=this.2.2 x h4 w (bT ..);omega
   rw[h5,vV];have:=atB p2 o2 h6;omega
  refine Lc.steps hg e' ⟨fun u hu=>?_,?_,fun o'=>?_,fun u hu p' o' h'=>?_,fun p' o' h'=>?_,?_,fun u hu hn=>?_,List.nodup_cons.2 ⟨hm,H.ndm⟩,fun u hu=>?_⟩
  ·rcases(mem_iff u).1 hu with hu | rfl
   ·exact H.path u hu
   exact Uw.2 ⟨w.2,H.path w (by simp),atA⟩
  ·have:done++w::(todo++[(w.1++[p],o)])=(done++w::todo)++[(w.1++[p],o)]:=by simp
   rw[this,List.pairwise_append];exact⟨H.srt,List.pairwise_singleton _ _,fun u hu v hv=>by rw[dP.1 hv];exact big u hu⟩
  ·rw[bU,H.ajg o'];constructor
   ·rintro(rfl | ⟨u,h1,h2⟩)
    ·exact⟨_,(mem_iff _).2 (.inr O),by simp,O⟩
    exact⟨u,(mem_iff _).2 (.inl h1),h2⟩
   rintro⟨u,h1,h2,h3⟩;rcases(mem_iff _).1 h1 with h1 | rfl
   ·exact .inr ⟨u,h1,h2,h3⟩
   exact .inl h3.symm
  ·obtain⟨w',h1,h2⟩:=H.next u hu p' o' h';exact⟨w',(mem_iff _).2 (.inl h1),h2⟩
  ·rcases dh.1 h' with h' | h'
   ·obtain⟨w',h1,h2⟩:=H.ae5 p' o' h';exact⟨w',(mem_iff _).2 (.inl h1),h2⟩
   obtain⟨rfl,rfl⟩:=Prod.mk.inj (dP.1 h');exact⟨_,(mem_iff _).2 (.inr O),by simp,O,Nat.le_refl _⟩
  ·exact(mem_iff _).2 (.inl H.root)
  ·rcases dh.1 hu with hu | hu
   ·exact(H.par u hu hn).imp id fun⟨p',h1,o',h2⟩=>⟨p',h1,o',by simp[h2]⟩
   rw[dP.1 hu];exact .inr ⟨p,O,o,by simp⟩
  rw[gK];rcases(mem_iff u).1 hu with hu | rfl
  ·exact Nat.le_succ_of_le (H.len u hu)
  have:=H.len w (by simp);simp only[jA,gK,List.length_nil];omega

theorem aa8.step(hg:ae4 g){q:Nat}{done:List Wy}{w:Wy}{todo:List Wy}(H:aa8 g q done met (w::todo)):
  aa8 g q (done++[w]) (P9 w.1 (g w.2) met todo).1 (P9 w.1 (g w.2) met todo).2:=by
 have G:Lc g q done w [] met todo:=⟨H.path,H.srt,H.ajg,H.next,fun _ _ h=>(by cases h),H.root,fun u hu hn=>.inl (H.par u (dH _ hu) hn),H.ndm,H.len⟩
 have G':=Lc.steps hg (r:=g w.2) (gone:=[]) O G;generalize P9 w.1 (g w.2) met todo=X at*;obtain⟨aAn,Xp⟩:=X;simp only at*;have e:(done++[w])++Xp=done++w::Xp:=by simp
 refine⟨fun u hu=>G'.path u (e▸hu),by rw[e];exact G'.srt,fun o=>by rw[e];exact G'.ajg o,fun u hu p o h=>?_,by rw[e];exact G'.root,fun u hu hn=>?_,G'.ndm,fun u hu=>G'.len u (e▸hu)⟩
 ·rw[e];rcases dh.1 hu with hu | hu
  ·exact G'.next u hu p o h
  rw[dP.1 hu]at h⊢;exact G'.ae5 p o h
 rcases G'.par u hu hn with⟨x,h1,p,h2,h3⟩ | ⟨p,h1,o,h2⟩
 ·exact⟨x,by simp[h1],p,h2,h3⟩
 exact⟨w,by simp,p,h1,hg.low _ _ _ h2⟩

theorem aa8.all{q:Nat}{done:List Wy}(H:aa8 g q done met []):∀(v:List Nat) (e:Nat),Fz g q v e->∃w∈done,w.2=e/\Gg w.1<=Gg v/\(v≠[]->w.1≠[]):=by
 intro v
 induction v using amh with
 | nil=>exact fun e h=>⟨([],q),by simpa using H.root,h,Nat.le_refl _,fun h=>absurd rfl h⟩
 | snoc v p ih=>
  intro e h;obtain⟨m,h1,h2⟩:=Uw.1 h;obtain⟨w,h3,rfl,h5,_⟩:=ih m h1;obtain⟨w',h6,h7,h8,h9⟩:=H.next w h3 p e h2;refine⟨w',by simpa using h6,h8,?_,fun _=>h7⟩;rw[vV]at*;omega
set_option linter.unusedVariables false
set_option linter.unusedVariables false
section
variable{g:Gph}
end
def ami(s:Nat):List Nat:=(List.range 4).filter fun n=>s.testBit n
set_option linter.unusedVariables false
structure Pn where
 (lo hi sh:Int)
 deriving DecidableEq
structure Lt where
 (qu po:Int)
 deriving DecidableEq
def Pn.row(p:Pn):List Value:=[I p.lo,I p.hi,I p.sh]
def Lt.row(p:Lt):List Value:=[I p.qu,I p.po]
abbrev Pn.val(p:Pn):Value:=.agg #[I p.lo,I p.hi,I p.sh]
abbrev Lt.val(p:Lt):Value:=.agg #[I p.qu,I p.po]
instance:Rw Pn.row 3:=⟨fun _=>rfl,fun _=>rfl⟩
instance:Rw Lt.row 2:=⟨fun _=>rfl,fun _=>rfl⟩
abbrev U8(n:Nat):Value:=.int .u8 (n:Int)

def oN(p:Pn):Int:=if outs p.lo 0 12\/outs p.hi 0 12 then 1 else if p.hi<p.lo then 5 else if outs p.sh (-6) 6 then 1 else 0
def uO:List Pn->Int
 | []=>0
 | p::r=>if oN p=0 then uO r else oN p
def Dw(ps:List Pn):Int:=if 4<ps.length then 6 else uO ps
theorem Ux:∀{ps:List Pn},uO ps=0->∀p∈ps,oN p=0
 | [],_,p,h=>by cases h
 | a::ps,h,p,hp=>by
  simp only[uO]at h;split at h
  ·rename_i h1;rcases bU.1 hp with rfl | hp
   ·exact h1
   exact Ux h p hp
  rename_i h1;exact absurd h h1
structure EO(ps:List Pn):Prop where
 len:ps.length<=4
 pan:∀p∈ps,0<=p.lo/\p.lo<=12/\0<=p.hi/\p.hi<=12/\p.lo<=p.hi/\-6<=p.sh/\p.sh<=6
variable{ps:List Pn}
theorem EO.xE(h:Dw ps=0):EO ps:=by
 unfold Dw at h;split at h
 ·cases h
 refine⟨aj,fun p hp=>?_⟩;have h1:=Ux h p hp;unfold oN at h1;split at h1
 ·cases h1
 split at h1
 ·cases h1
 split at h1
 ·cases h1
 simp only[outs]at*;omega

def Pn.vC(p:Pn)(q:Int):Bool:=decide (p.lo<=q)&&decide (q<=p.hi)
def Pn.out(p:Pn)(q:Int):Int:=min (max (q+p.sh) 0) 12
def ajh(ps:List Pn)(q:Int)(i:Nat):Bool:=match ps[i]? with
 | some p=>p.vC q
 | none=>false
def zL:List Bool->Nat
 | []=>0
 | b::r=>(if b then 1 else 0)+2*zL r
def aji(ps:List Pn)(q:Int):Nat:=zL (ps.map (·.vC q))
theorem Zg:∀{l:List Bool},zL l<2 ^ l.length
 | []=>by simp[zL]
 | b::r=>by
  have:=Zg (l:=r);simp only[zL,gK,Nat.pow_succ];split <;>omega
theorem agt{l:List Bool}(h:l.length<=4):zL l<16:=Nat.lt_of_lt_of_le Zg (Nat.pow_le_pow_right aj h)
theorem aa9:∀{l:List Bool} {i:Nat},(zL l).testBit i=l.getD i false
 | [],i=>by simp[zL]
 | b::r,0=>by
  simp only[zL,Nat.testBit_zero,List.getD_cons_zero]
  cases b
  ·simp
  simp
 | b::r,i+1=>by
  have e:zL (b::r) / 2=zL r:=by simp only[zL];split <;>omega
  rw[Nat.testBit_succ,e,aa9];simp
theorem ajj{q:Int}:(aji ps q).testBit i=ajh ps q i:=by
 rw[aji,aa9,ajh];simp only[List.getD,iL]
 cases ps[i]? <;>rfl
theorem NH:∀{l:List Bool} {b:Bool},zL (l++[b])=zL l+(if b then 2 ^ l.length else 0)
 | [],b=>by cases b <;>rfl
 | a::l,b=>by
  simp only[List.cons_append,zL,NH (l:=l),gK,Nat.pow_succ]
  cases b <;>simp <;>omega
def orT(a k:Nat):Bool:=bits .or .u8 (a:Int) (IntKind.u8.wrap (1*2 ^ (min (k:Int).toNat IntKind.u8.bits)))==((a+2 ^ k:Nat):Int)
theorem amj:((List.range 4).all fun k=>(List.range (2 ^ k)).all fun a=>orT a k)=true:=by kernel_rfl
theorem amk(hk:k<4)(ha:a<2 ^ k):bits .or .u8 (a:Int) (IntKind.u8.wrap (1*2 ^ (min (k:Int).toNat IntKind.u8.bits)))=((a+2 ^ k:Nat):Int):=by
 have h:=amj;rw[List.all_eq_true]at h;have h:=h k (List.mem_range.2 hk);rw[List.all_eq_true]at h;have h:=h a (List.mem_range.2 ha);simpa only[orT,beq_iff_eq]using h
def atC(a k:Nat):Bool:=(bits .and .u8 ((a:Int).fdiv (2 ^ (min (k:Int).toNat IntKind.u8.bits))) 1==1)==a.testBit k
theorem ajk:((List.range 16).all fun a=>(List.range 4).all fun k=>atC a k)=true:=by kernel_rfl
theorem aml(ha:a<16)(hk:k<4):decide (bits .and .u8 ((a:Int).fdiv (2 ^ (min (k:Int).toNat IntKind.u8.bits))) 1=1)=a.testBit k:=by
 have h:=ajk;rw[List.all_eq_true]at h;have h:=h a (List.mem_range.2 ha);rw[List.all_eq_true]at h;have h:=h k (List.mem_range.2 hk);simp only[atC,beq_iff_eq]at h;rw[<-h];exact(QU _ _).symm
def adC(a c:Nat):Nat:=(List.range 4).foldl (fun n i=>n+if a.testBit i&& !c.testBit i then 2 ^ i else 0) 0
def atD(a c:Nat):Bool:=(bits .andNot .u8 (a:Int) (c:Int)==(adC a c:Int))&&decide (adC a c<16)&&decide (ami (adC a c)=(List.range 4).filter fun i=>a.testBit i&& !c.testBit i)
theorem ajl:((List.range 16).all fun a=>(List.range 16).all fun c=>atD a c)=true:=by kernel_rfl
theorem ajm{c:Nat}(ha:a<16)(hc:c<16):bits .andNot .u8 (a:Int) (c:Int)=(adC a c:Int)/\adC a c<16/\ami (adC a c)=(List.range 4).filter fun i=>a.testBit i&& !c.testBit i:=by
 have h:=ajl;rw[List.all_eq_true]at h;have h:=h a (List.mem_range.2 ha);rw[List.all_eq_true]at h;have h:=h c (List.mem_range.2 hc);simp only[atD,Bool.and_eq_true,beq_iff_eq,decide_eq_true_eq]at h;exact⟨h.1.1,h.1.2,h.2⟩

def rC(ps:List Pn)(c q:Nat):List Nat:=(List.range 4).filter fun i=>ajh ps q i&& !c.testBit i
theorem Uy{c q:Nat}:i∈rC ps c q↔i<4/\ajh ps q i=true/\c.testBit i=false:=by
 simp[rC]
theorem aa_{c q:Nat}:(rC ps c q).length<=4:=Nat.le_trans (List.length_filter_le ..) (by simp)
theorem amm{c q:Nat}(h:i∈rC ps c q):i<ps.length:=by
 have:=(Uy.1 h).2.1;unfold ajh at this;split at this
 ·rename_i p hp;rcases bQ i ps.length with h' | h'
  ·exact h'
  rw[fM h']at hp;cases hp
 cases this
def zs(l:List Nat):List Int:=l.map fun(n:Nat)=>(n:Int)
theorem rZ(l:List Nat):(zs l).length=l.length:=by simp[zs]
theorem Zh(l l':List Nat):zs (l++l')=zs l++zs l':=by simp[zs]
section
variable{x:Cx}{Q:fO}{ρ:Env}{ds:List Deferred}{F L:ah}{ops:Array Oper}{i d:Nat}{rest:List Nat}{op:Op}{ty:TypeId}{pos:String}{bW:Array Edge}{g:Option (Nat×Bool)}{v u:Value}
theorem Gh(hy:Yv x (· =F) ρ ⟨some d,op,ty,pos,bW,g⟩ v)(e:v=u)(ho:dS ops.toList i=some ⟨some d,op,ty,pos,bW,g⟩)(hw:gY ops ρ ⟨some d,op,ty,pos,bW,g⟩)(hd:Nat.blt d x.n=true)(hn:fB op=true)(H:aA x ops rest Q ((d,u)::ρ) ds F):aA x ops (i::rest) Q ρ ds F:=
 oq (e▸hy) ho hw hd hn H
theorem aqe{fuel listed:Nat}(hy:Yv x (aC L) ρ ⟨some d,op,ty,pos,bW,g⟩ v)(e:v=u)(ho:dS ops.toList i=some ⟨some d,op,ty,pos,bW,g⟩)(hw:iM ops (look ρ) ⟨some d,op,ty,pos,bW,g⟩ true)(hd:Nat.blt d x.n=true)(hn:fB op=true)(H:Any x ops L fuel (listed||| 2 ^ i) Q ((d,u)::ρ) ds F)(hr:(Oo ops listed i&&Fb ops listed i&&LW ops)=true:=by kernel_rfl)(hS:aC L F:=by first | exact fun _ h=>h | exact fun _ h=>absurd h List.not_mem_nil | ((repeat(first | exact fun _ h=>h | apply aC.cons | apply aC.app)) <;>fail) | (repeat(first | exact aC.nil | refine aC.one zS ?_))):Any x ops L (fuel+1) listed Q ρ ds F:=
 aq (e▸hy) ho hw hd hn H hr hS
end
section
variable{x:Cx}{S:ah->Prop}{ρ:Env}{o:Oper}
end
section
variable{P:Program}{h k:Hp}{F:ah}{M:Nat->Prop}{γ:GP}{N:Nat}{c:Obj}
theorem Sat.drop(S:Sat h ((b,o)::F) k M):Sat h F (zV k b) (fun x=>M x/\x≠b):=by
 have hb:=S.own b o (bT ..);have uX:=S.nodup;simp only[dQ,List.nodup_cons]at uX
 have Eo:∀c x,(c,x)∈F->c≠b:=by
  rintro c x hx rfl;exact uX.1 (List.mem_map.2 ⟨_,hx,O⟩)
 refine⟨fun x o hx=>?_,fun x o hx=>?_,uX.2,fun x o hm hx ho=>?_,fun x hx=>?_⟩
 ·have e:x≠b:=by rintro rfl;rw[hb.2.2]at hx;cases hx
  rw[lM _ e];exact S.sub x o hx
 ·have e:=Eo x o hx;have:=S.own x o (dH _ hx);exact⟨by rw[lM _ e];exact this.1,⟨this.2.1,e⟩,this.2.2⟩
 ·rcases S.all x o hm.1 (y8 hx).2 ho with h1 | h1
  ·rcases bU.1 h1 with e | h1
   ·cases e;exact absurd rfl hm.2
   exact .inl h1
  exact .inr h1
 have:=S.Je x hx;have e:x≠b:=by rintro rfl;exact this.1 hb.2.1
 exact⟨fun h=>this.1 h.1,by rw[lM _ e];exact this.2⟩
theorem Fr.drop{M M':Nat->Prop}{F G:ah}(f:Fr M ((b,o)::F) M' ((b,o')::G)):Fr M ((b,o)::F) (fun x=>M' x/\x≠b) G:=fun x hx hF=>
 let⟨h1,h2⟩:=f x hx hF
 ⟨⟨h1,fun e=>by subst e;exact hF o (bT ..)⟩,fun o ho=>h2 o (dH _ ho)⟩

theorem Sat.FC{c:Nat}(S:Sat h F k M)(hl:At c o F U):k c=some o/\M c/\Sat h (U o') (dM k c o') M/\Fr M F M (U o'):=by
 obtain⟨F1,F2,rfl,e2⟩:=hl.split;have hc:=S.own c o (by simp);have uX:=S.nodup;rw[e2]
 have iK:∀b x,(b,x)∈F1\/(b,x)∈F2->b≠c:=by
  rintro b x hx rfl;simp only[List.map_append,dQ,List.nodup_append,List.nodup_cons]at uX;rcases hx with hx | hx
  ·exact uX.2.2 b (List.mem_map.2 ⟨_,hx,O⟩) b (by simp) O
  exact uX.2.1.1 (List.mem_map.2 ⟨_,hx,O⟩)
 refine⟨hc.1,hc.2.1,⟨fun b x hb=>?_,fun b x hb=>?_,by simpa using uX,fun b x hm hx hox=>?_,fun b hb=>?_⟩,Fr.turn _ _ _ _ _ fun _ h=>h⟩
 ·have e:b≠c:=by rintro rfl;rw[hc.2.2]at hb;cases hb
  rw[bJ _ _ e];exact S.sub b x hb
 ·have old:(b,x)∈F1\/(b,x)∈F2->dM k c o' b=some x/\M b/\h b=none:=fun hx=>by
   have:=S.own b x (by rcases hx with hx | hx <;>simp[hx]);rw[bJ _ _ (iK b x hx)];exact this
  rcases dh.1 hb with hb | hb
  ·exact old (.inl hb)
  rcases bU.1 hb with e | hb
  ·cases e;exact⟨bP _ _ _,hc.2⟩
  exact old (.inr hb)
 ·by_cases e:b=c
  ·subst e;rw[bP]at hx;cases hx;exact .inl (by simp)
  rw[bJ _ _ e]at hx;rcases S.all b x hm hx hox with h1 | h1
  ·left;rcases dh.1 h1 with h1 | h1
   ·exact jm _ h1
   rcases bU.1 h1 with e' | h1
   ·cases e';exact absurd rfl e
   exact bZ _ (dH _ h1)
  exact .inr h1
 have:=S.Je b hb;have e:b≠c:=by rintro rfl;exact this.1 hc.2.1
 rw[bJ _ _ e];exact this

theorem qQ.join{q:Option GP}{d:Nat}{g:Goroutine}{k:Hp}{M:Nat->Prop}(H:qQ P (Mn P Fin) q d g k M):qQ P Fin q d g k M:=by
 induction H with
 | fin h=>exact h
 | step hs ok _ ih=>exact .step hs ok ih
 | y9 hs ok _ ih=>exact .y9 hs ok ih
 | spawn hs xK hsc e hk hM Jf qB hc SV aae FP _ ih=>exact .spawn hs xK hsc e hk hM Jf qB hc SV aae FP ih
 | recv hs hk hM Oy e _ ih=>exact .recv hs hk hM Oy e ih
 | done hs hk hM Oy e _ ih=>exact .done hs hk hM Oy e ih
 | opens γ N c hN hk hM iK hX hMX _ ih=>exact .opens γ N c hN hk hM iK hX hMX ih
 | Oz hs xK hkW hk hM e _ ih=>exact .Oz hs xK hkW hk hM e ih
 | add hk hM E T hE _ ih=>exact .add hk hM E T hE ih
 | work hs xK hsc e hk hM qB hA hc SV ac3 FP _ ih=>exact .work hs xK hsc e hk hM qB hA hc SV ac3 FP ih
 | wait hk hM hX E T hE _ ih=>exact .wait hk hM hX E T hE ih
 | exit hk _ ih=>exact .exit hk ih
theorem Stp.inside{g:Goroutine}(hk:k γ.Wg=some wW)(hM:M γ.Wg)(H:Stp P true (J4 P true (Mn P Fin)) g (zV k γ.Wg) (fun b=>M b/\b≠γ.Wg)):
  Stp P true (J4 P true (qQ P (Mn P Fin) (some γ) 0)) g k M:=by
 refine⟨H.1,fun w hw hd=>?_⟩;have fK:=hw.lt hk;obtain⟨g',w',es,e,gu,T⟩:=H.2 w (fun b o hb=>hw b o (y8 hb).2) fun b hb=>by rw[lM _ hb.2];exact hd b hb.1
 refine⟨g',w',es,e,⟨gu.size,fun b hb hm=>gu.keep b hb fun h=>hm h.1,gu.lJ,gu.news,gu.stay,fun b o hb ho=>?_,gu.os,gu.output,gu.tape,fun e he=>?_⟩,.stop (.exit (sK hk O) (.fin (Mn.ng ?_)))⟩
 ·by_cases Qq:b=γ.Wg
  ·subst Qq;exact gu.keep _ fK fun h=>h.2 O
  exact gu.JF b o (by rw[lM _ Qq];exact hb) ho
 ·have key:∀b,(zV k γ.Wg b).isSome=true->b≠γ.Wg:=fun b hb e=>by subst e;rw[CJ]at hb;cases hb
  have:=gu.jv e he;unfold Jd at this⊢;split at this
  ·rename_i a ha;refine⟨this.1,?_⟩;rcases this.2 with x | x | ⟨x1,x2,c,po,x3,x4⟩
   ·have hb:=key _ x.1;rw[lM _ hb]at x;exact .inl ⟨x.1,x.2.1,fun y=>(x.2.2 y).1⟩
   ·exact .inr (.inl x)
   exact .inr (.inr ⟨x1,x2,c,po,(y8 x3).2,x4⟩)
  ·rename_i r hr;refine⟨this.1,this.2.imp (fun x=>?_) id⟩;have hb:=key _ x.1;rw[lM _ hb]at x;exact⟨x.1,x.2.1,fun y=>(x.2.2 y).1⟩
  ·exact this
  exact this.elim
 have e1:zV (snap k w w') γ.Wg=snap (zV k γ.Wg) w w':=by
  refine Hp.ext' (fun b=>?_) O;by_cases Qq:b=γ.Wg
  ·subst Qq;rw[CJ,IU (CJ _ _) fK]
  rw[lM _ Qq];simp only[snap,lM _ Qq]
 have e2:(fun b=>grown M w w' b/\b≠γ.Wg)=grown (fun b=>M b/\b≠γ.Wg) w w':=by
  funext b;apply propext;constructor
  ·rintro⟨h | h,hn⟩
   ·exact .inl ⟨h,hn⟩
   exact .inr h
  rintro(h | h)
  ·exact⟨.inl h.1,h.2⟩
  exact⟨.inr h,fun e=>by subst e;omega⟩
 rw[e1,e2];exact T
end
section
variable{h k:Hp}{F A:ah}{M:Nat->Prop}
theorem NJ(hn:(A.map (·.1)).Nodup)(hb:(b,o)∈A):qN k A b=some o:=by
 simp only[qN];obtain⟨o',e⟩:=iJ.1 (AU hb);rw[e];have h2:=jO e
 have:o'=o:=by
  clear e
  induction A with
  | nil=>cases hb
  | cons p A ih=>
   simp only[dQ,List.nodup_cons]at hn;rcases bU.1 hb with e1 | hb1
   ·rcases bU.1 h2 with e2 | h3
    ·rw[<-e1]at e2;cases e2;rfl
    subst e1;exact absurd (List.mem_map.2 ⟨_,h3,O⟩) (show b∉_ from hn.1)
   rcases bU.1 h2 with e2 | h3
   ·subst e2;exact absurd (List.mem_map.2 ⟨_,hb1,O⟩) (show b∉_ from hn.1)
   exact ih hn.2 hb1 h3
 rw[this]
theorem abb(hb:∀o,(b,o)∉A):qN k A b=k b:=by
 simp only[qN]
 cases e:A.lookup b with
 | none=>rfl
 | some o=>exact absurd (jO e) (hb o)
theorem Uz(e:qN k A b=some o):(b,o)∈A\/k b=some o:=by
 simp only[qN]at e
 cases e':A.lookup b with
 | none=>rw[e']at e;exact .inr e
 | some o'=>rw[e']at e;cases e;exact .inl (jO e')

theorem Sat.atE(S:Sat h F k M)(hn:(A.map (·.1)).Nodup)(hA:∀b o,(b,o)∈A->k b=none/\¬M b/\o.isChan=false):Sat h (A++F) (qN k A) (fun b=>M b\/∃o,(b,o)∈A)/\Fr M F (fun b=>M b\/∃o,(b,o)∈A) (A++F):=by
 have hk:∀b o,k b=some o->qN k A b=some o:=fun b o hb=>by
  rw[abb fun o' mM=>by rw[(hA b o' mM).1]at hb;cases hb];exact hb
 refine⟨⟨fun b o hb=>hk b o (S.sub b o hb),fun b o hb=>?_,?_,fun b o hm hb ho=>?_,fun b hb=>?_⟩,fun b hm hF=>⟨.inl hm,fun o ho=>?_⟩⟩
 ·rcases dh.1 hb with hb | hb
  ·refine⟨NJ hn hb,.inr ⟨o,hb⟩,?_⟩
   cases e:h b with
   | none=>rfl
   | some o'=>have:=S.sub b o' e;rw[(hA b o hb).1]at this;cases this
  have:=S.own b o hb;exact⟨hk b o this.1,.inl this.2.1,this.2.2⟩
 ·rw[List.map_append,List.nodup_append];refine⟨hn,S.nodup,fun b hb b' wz e=>?_⟩;subst e;obtain⟨⟨b1,o1⟩,h1,rfl⟩:=List.mem_map.1 hb;obtain⟨⟨b2,o2⟩,h2,e⟩:=List.mem_map.1 wz;simp only at e;subst e;have:=(S.own _ _ h2).1;rw[(hA _ _ h1).1]at this;cases this
 ·rcases Uz hb with hb | hb
  ·rw[Gu (hA b o hb).2.2]at ho;cases ho
  rcases hm with hm | ⟨o',hm⟩
  ·exact(S.all b o hm hb ho).imp (fun h=>bZ _ h) id
  rw[(hA b o' hm).1]at hb;cases hb
 ·obtain⟨h1,h2⟩:=S.Je b hb;obtain⟨o,ho⟩:=iJ.1 h2;refine⟨?_,by rw[hk b o ho];rfl⟩;rintro(h | ⟨o',h⟩)
  ·exact h1 h
  rw[(hA b o' h).1]at ho;cases ho
 rcases dh.1 ho with ho | ho
 ·exact(hA b o ho).2.1 hm
 exact hF o ho
end
section rules
variable{x:Cx}{Q:fO}{ρ:Env}{ds:List Deferred}{F:ah}{ops:Array Oper}{i:Nat}{rest:List Nat}{o:Oper}
theorem abd{m:Bool}{π:qL}{fn:FuncId}{b:Frame}{tmps:Array Value}{k:List Item}{cs:List Frame}{s:π.S}{R:Value->π.S->Prop}{E:π.S->Goroutine->Prop}(hfn:b.fn=fn)(fA:(b.kind==CallKind.early)=false)(ho:ops[i]? =some o)(hw:Region.wanted o (yielded ops tmps)=true)(DZ:∀c,o.op≠ .defer c)
  (hv:∃es,seen P fn es= #[]/\∀w,(execOp (dR b tmps ds (.inRegion ops (i::rest)::k)).eval o).runT P w #[]=(.ok (.enter f args) w,es)) (hL:nJ P m π f args s R)
  (hE:∀v s',R v s'->E s' (G ((dR b tmps ds (.inRegion ops (i::rest)::k)).finish v) cs)):lD P m π E s (G (dR b tmps ds (.inRegion ops (i::rest)::k)) cs):=by
 obtain⟨es,hes,hr⟩:=hv;have hff:(dR b tmps ds (.inRegion ops (i::rest)::k)).fn=fn:=hfn;refine .idle (g':=G (Frame.enter P f args .normal) (dR b tmps ds (.inRegion ops (i::rest)::k)::cs)) O (fun w=>?_) (hL _ cs E fun v s' r=>.exit O (hE v s' r));have:=wC (P:=P) (main:=sd m) (ds:=ds) (rest:=rest) (b:=b) (k:=k) (cs:=cs) (w:=w) ho hw DZ;rw[show(sd m).b=m from rfl]at this;rw[this,Gz (fr:=dR b tmps ds (.inRegion ops (i::rest)::k)) (cs:=cs) (hr w) fA ⟨_,_,_,O⟩,hff,hes]

theorem aA.add{left:Nat}(hS:∀S,x.main.ok S->∃Fin,S=qQ x.P Fin (some γ) 0)(hb:x.main.b=true)(ho:ops[i]? =some o)(hw:gY ops ρ o)(hd:iy o.dst x.n=true)(DZ:∀c,o.op≠ .defer c)
  (hv:∀e,Kn1 ρ e->∃es,seen x.P x.fn es= #[]/\∀w,(execOp e o).runT x.P w #[]=(.ok (.enter f args) w,es)) (hL:nJ x.P true (gJ γ.toGrp) f args (.wg (.add 0) 0) fun v s=>v= .tuple #[]/\s= .wg (.add 1) 0)
  (hl:At γ.Wg (tu 0 j left) F U) (H:aA x ops rest Q (put ρ o.dst (.tuple #[])) ds (U (tu 1 j left))):aA x ops (i::rest) Q ρ ds F:=by
 intro b k cs Stop tmps hk M h1 h0 h2 h3 h4 h5 hc;have fA:(b.kind==CallKind.early)=false:=by simpa using h2.1
 obtain⟨e1,e2,S',f'⟩:=h5.ghost (o':=tu 1 j left) hl ⟨rfl,rfl⟩;obtain⟨Ex,eS⟩:=hS _ Stop.2.1;obtain⟨p1,p2⟩:=h3.Jg h4 hd (.tuple #[]);have eG:Gs x.P x.main Stop=J4 x.P true (qQ x.P Ex (some γ) 0):=by funext g k M;unfold Gs;rw[hb,eS]
 have:=H b k cs Stop _ _ _ h1 h0 h2 p1 p2 S' fun e gW iT G bC fA M' q a1 a2 a3 a4=>hc e gW iT G bC fA M' q a1 a2 a3 (f'.trans a4);rw[eG]at this⊢;refine .stop (.add e1 e2 (fun s g'=>s= .wg (.add 1) 0/\g'=G ((dR b tmps ds (.inRegion ops (i::rest)::k)).finish (.tuple #[])) cs) (abd h1 fA ho (hw.wanted h3) DZ (hv _ fun _ _ hx=>h3.ev hx) hL fun v s' r=>⟨r.2,by rw[r.1]⟩) (fun s g' h=>h.1) fun s g' h=>?_);obtain⟨_,rfl⟩:=h;rw[fQ (b:=b) (t:=tmps) (ds:=ds) (k:=k) (cs:=cs) (rest:=rest) ho (.tuple #[])];exact qQ.ng this

theorem aA.wait{left:Nat}{V:Obj->Obj->ah}(hS:∀S,x.main.ok S->∃Fin,S=qQ x.P Fin (some γ) 0)(hb:x.main.b=true)(ho:ops[i]? =some o)(hw:gY ops ρ o)(hd:iy o.dst x.n=true)(DZ:∀c,o.op≠ .defer c)
  (hv:∀e,Kn1 ρ e->∃es,seen x.P x.fn es= #[]/\∀w,(execOp e o).runT x.P w #[]=(.ok (.enter f args) w,es)) (hL:nJ x.P true (gJ γ.toGrp) f args (.wg (.add 0) 0) fun v s=>v= .tuple #[]/\s= .wg .out 0)
  (hl:At γ.Wg (tu 0 j left) F U) (hlX:∀o,At γ.X (bn c m) (U o) (V o)) (iK:γ.X≠γ.Wg) (H:∀As:List ah,As.length=j.length->(∀(i τ:Nat) (A:ah),As[i]? =some A->j[i]? =some τ->γ.R τ A)->aA x ops rest Q (put ρ o.dst (.tuple #[])) ds (As.flatten++V wW (.cells c γ.tX γ.fX))):aA x ops (i::rest) Q ρ ds F:=by
 intro b k cs Stop tmps hk M h1 h0 h2 h3 h4 h5 hc;have fA:(b.kind==CallKind.early)=false:=by simpa using h2.1
 obtain⟨e1,e2,S0,_⟩:=h5.FC (o':=wW) hl;obtain⟨e3,e4,_,_⟩:=S0.FC (o':=wW) (hlX wW);rw[bJ _ _ iK]at e3;obtain⟨Ex,eS⟩:=hS _ Stop.2.1;obtain⟨p1,p2⟩:=h3.Jg h4 hd (.tuple #[]);have eG:Gs x.P x.main Stop=J4 x.P true (qQ x.P Ex (some γ) 0):=by funext g k M;unfold Gs;rw[hb,eS]
 rw[eG];refine .stop (.wait e1 e2 e3 (fun s g'=>s= .wg .out 0/\g'=G ((dR b tmps ds (.inRegion ops (i::rest)::k)).finish (.tuple #[])) cs) (abd h1 fA ho (hw.wanted h3) DZ (hv _ fun _ _ hx=>h3.ev hx) hL fun v s' r=>⟨r.2,by rw[r.1]⟩) (fun s g' h=>h.1) fun s g' As h hlen hR uX Vx=>?_);obtain⟨_,rfl⟩:=h;rw[fQ (b:=b) (t:=tmps) (ds:=ds) (k:=k) (cs:=cs) (rest:=rest) ho (.tuple #[])];obtain⟨S1,f1⟩:=h5.atE uX Vx;obtain⟨_,_,S2,f2⟩:=S1.FC (o':=wW) (At.app (B:=As.flatten) hl);obtain⟨_,_,S3,f3⟩:=S2.FC (o':=.cells c γ.tX γ.fX) (At.app (B:=As.flatten) (hlX wW));have:=H As hlen hR b k cs Stop _ _ _ h1 h0 h2 p1 p2 S3 fun e gW iT G bC fA M' q a1 a2 a3 a4=>hc e gW iT G bC fA M' q a1 a2 a3 (((f1.trans f2).trans f3).trans a4);rw[eG]at this;exact qQ.ng this

theorem ajn{s:Nat}[j:TI P t s b z zc]{β:Type}{f:Nat->Sem β}{w:World}:((sizeOf t).bind f).runT P w es=(f s).runT P w es:=by
 obtain⟨j,h1,h3,_,h2,_⟩:=j.out;simp only[sizeOf,typeInfo,program,bind_eq,au,Sem.bind,Sem.runT,h1,h2,h3]
theorem aA.Oz{b' tt ll:Nat}{jj:List Nat}{u:Value}{a:Operand}(hS:∀S,x.main.ok S->∃Fin,S=qQ x.P Fin (some γ) 0)(hb:x.main.b=true)(ho:ops[i]? =some o)(aY:o.op= .store t a y)[TI x.P t 1 b' z zc](hw:gY ops ρ o)(hd:iy o.dst x.n=true)
  (ha:ev ρ a=some (.pointer (some γ.hole))) (hy:ev ρ y=some u) (hu:one u=true) (hq:γ.q<c.size) (hf:γ.fX=(0,0)) (hse:seen x.P x.fn #[⟨.cell γ.hole,true,false⟩]= #[⟨.cell γ.hole,true,false⟩]) (hlW:(γ.Wg,tu tt jj ll)∈F) (hl:At γ.X (bn c m) F U) (H:aA x ops rest Q (put ρ o.dst undef) ds (U (bn (c.setIfInBounds γ.q u) m))):aA x ops (i::rest) Q ρ ds F:=by
 intro b k cs Stop tmps hk M h1 h0 h2 h3 h4 h5 hc;have fA:(b.kind==CallKind.early)=false:=by simpa using h2.1
 obtain⟨e1,e2,S1,f1⟩:=h5.FC (o':=bn (c.setIfInBounds γ.q u) m) hl;obtain⟨Ex,eS⟩:=hS _ Stop.2.1;obtain⟨p1,p2⟩:=h3.Jg h4 hd undef;have eG:Gs x.P x.main Stop=J4 x.P true (qQ x.P Ex (some γ) 0):=by funext g k M;unfold Gs;rw[hb,eS]
 have:=H b k cs Stop _ _ _ h1 h0 h2 p1 p2 S1 fun e gW iT G bC fA M' q a1 a2 a3 a4=>hc e gW iT G bC fA M' q a1 a2 a3 (f1.trans a4);rw[eG]at this⊢;have hff:(dR b tmps ds (.inRegion ops (i::rest)::k)).fn=x.fn:=h1;refine .stop (.Oz (g':=G ((dR b tmps ds (.inRegion ops (i::rest)::k)).finish undef) cs) (v:=u) O O (h5.own _ _ hlW).1 e1 e2 (fun w hX=>?_) ?_)
 ·have e:=wC (P:=x.P) (main:=alE x.P γ) (cs:=cs) (w:=w) (ds:=ds) (k:=k) (b:=b) (rest:=rest) ho (hw.wanted h3) (fun c=>by rw[aY];simp);rw[show(alE x.P γ).b=true from rfl]at e;rw[e]
  have ajo:w.cell? γ.hole=some c[γ.q]:=by
   unfold World.cell? GP.hole;simp[hX,hq]
  have hfz:w.frozen? γ.hole=false:=by
   unfold World.frozen? GP.hole;simp[hX,hf]
  have r:(execOp (dR b tmps ds (.inRegion ops (i::rest)::k)).eval o).runT x.P w #[]=(.ok .skip (w.setCell γ.hole u), #[⟨.cell γ.hole,true,false⟩]):=by
   simp only[execOp,aY,h3.ev ha,h3.ev hy,Instr.storeAt,Instr.sureAddr,storeVar,bind_eq,au,bind_assoc,bind_pure,GR hu,List.size_toArray,gK,List.length_nil,Nat.zero_add];rw[ajn];simp only[ne_eq,not_true_eq_false,if_false,storeCells,kF,Nat.add_zero];rw[show γ.hole.add 0=γ.hole from kF O 0];have e1:(Mode.plain==Mode.atomic)=false:=rfl
   cases u <;>first | (cases hu;done) | (simp only[store,bind_eq,au,Sem.bind,Sem.runT,ajo,hfz,e1,eU,if_false];rfl)
  rw[D6 (fr:=dR b tmps ds (.inRegion ops (i::rest)::k)) (cs:=cs) r fA,hff,hse]
 rw[fQ (b:=b) (t:=tmps) (ds:=ds) (k:=k) (cs:=cs) (rest:=rest) ho undef];exact qQ.ng this
end rules
open Go.Conc (QuitsIn)
section
variable{P:Program}{γ:GP}{j:Nat}
def ae6(P:Program)(γ:GP)(fn:FuncId)(d:Deferred):Prop:=(∀r,d.target≠ .collected r)/\∃g args es,(∀w,(invoke d.target d.args).runT P w #[]=(.ok (.enter g args) w,es))/\seen P fn es= #[]/\LFD P false (gJ γ.toGrp) g args (.dn .live 0) fun s=>s= .dn .gone 0

def aqa(P:Program)(γ:GP)(j:Nat)(fn:FuncId)(h:Hp):List Deferred->ah->Prop
 | [],_=>False
 | d::ds,F=>(∃r,d.target= .collected r/\tr P h (Instr.takeDeferred r) F fun l F'=>l=[]/\aqa P γ j fn h ds F')\/
  (ae6 P γ fn d/\ds=[]/\∃A F',F.Perm (A++F')/\(∀b o,(b,o)∈A->o.isChan=false)/\γ.R j A)

theorem agu{b:Frame}{t:Array Value}{cs:List Frame}{d:Deferred}{ds:List Deferred}{todo:List Item}{w:World}{g:FuncId}(hd:∀r,d.target≠ .collected r)(h1:(invoke d.target d.args).runT P w #[]=(.ok (.enter g args) w,es))(h2:seen P b.fn es= #[]):
  stepG P false (G (kP b t (d::ds) todo) cs) w= .go (G (Frame.enter P g args .deferred) (kP b t ds todo::cs)) w #[]:=by
 rw[IQ hd];unfold callDeferred;have e2:(kP b t ds todo).mode= .returning:=rfl;have e3:(kP b t ds todo).fn=b.fn:=rfl;simp only[h1,e2,e3,h2,Bool.and_false,if_false,eU]
 rfl

theorem agv{b:Frame}{fn:Func}{t:Array Value}(hf:P.funcs[b.fn]? =some fn)(hr:fn.results= #[])(hkd:b.kind= .deferred):∀{ds:List Deferred} {F:ah} {hk:Hp} {M:Nat->Prop} (todo:List Item),Sat h F hk M->aqa P γ j b.fn h ds F->
  J4 P false (Wk P γ j) (G (kP b t ds todo) [pq P]) hk M:=by
 intro ds
 induction ds with
 | nil=>exact fun _ _ hu=>hu.elim
 | cons d ds ih=>
  intro F hk M todo S hu;rcases hu with⟨r,heq,hu⟩ | ⟨⟨hd,g,args,es,h1,h2,h3⟩,rfl,A,F',hp,hA,hR⟩
  ·obtain⟨target,wM⟩:=d;simp only at heq;subst heq;refine .tY ⟨O,fun w hw hM=>?_⟩;obtain⟨l,F',w',es,r1,r2,r3,r4,rfl,r5⟩:=oh _ #[] hu S hw hM;rw[Array.empty_append]at r1;exact⟨G (kP b t ds todo) [pq P],w',seen P b.fn es,D7 (main:=wkS P γ j) r1,r2.mem fun _=>mem_seen,ih todo r3 r5⟩
  have S1:=S.perm hp.symm;have uX:=S1.nodup;rw[List.map_append,List.nodup_append]at uX;refine .stop ⟨.done A (fun b o hb=>?_) uX.1 hR (Classical.choice (lD.tree (.idle rfl (fun w=>agu hd (h1 w) h2) (h3 (kP b t [] todo) [pq P] _ (fun r o h=>by cases h) fun s' r=>.exit rfl ⟨r,2,?_⟩))))⟩
  ·have:=S1.own b o (jm _ hb);exact⟨this.1,this.2.1,hA b o hb⟩
  exact .inr ⟨O,_,fun w=>aaA hf hr hkd,TF⟩

theorem Wk.start{fn:Func}{body:Code}[FB P f](hf:P.funcs[f]? =some fn)(hb:fn.body=some body)(hr:fn.results= #[])(ha:(args++ca).size<=fn.ntmps)(ρ:Env)(LD:LV ρ (args++ca)){kc:Hp}(S:Sat h F kc M)
  (H:W ⟨P,wkS P γ j,f,fn.ntmps,none,h⟩ body (fun e _ ds F=>(e= .ret\/e= .normal)/\aqa P γ j f h ds F) ρ [] F):Wk P γ j (xX P {target:=.fn (.func f) ca,args}) kc M:=by
 refine Wk.ng (.idle O aaz ?_)
 have e:Frame.enter P f (args++ca) .deferred=dR {(default:Frame)with fn:=f,kind:=.deferred} (args++ca++Array.replicate (fn.ntmps- (args++ca).size) undef) [] [.code body]:=by
  simp[Frame.enter,dR,hf,hb];rfl
 rw[e];refine H _ [] [pq P] ⟨Wk P γ j,O,Wk.aaH⟩ _ kc M O O (.deferred O (.inr O)) LD.ok (by simp at ha⊢;omega) S fun ex gW iT F' bC fA M' q a1 a2 a3 a4=>?_;obtain⟨hex,hu⟩:=q;have go:∀todo,J4 P false (Wk P γ j) (G (kP {(default:Frame)with fn:=f,kind:=.deferred} bC iT todo) [pq P]) fA M':=fun todo=>agv (fn:=fn) hf hr rfl todo a3 hu;rcases hex with rfl | rfl
 ·exact fun k'=>.idle O (fun _=>J5 (main:=wkS P γ j) O) (go _)
 exact .idle O (fun _=>J6 (main:=wkS P γ j) O) (go _)
end
theorem Sat.forget{k:Hp}(S:Sat h (A++F) k M):Sat h F (Me k A) (fun b=>M b/\∀o,(b,o)∉A)/\Fr M (A++F) (fun b=>M b/\∀o,(b,o)∉A) F:=by
 have uX:=S.nodup;rw[List.map_append,List.nodup_append]at uX;have hnA:∀b o,(b,o)∈F->∀o',(b,o')∉A:=fun b o hb o' wz=>uX.2.2 b (List.mem_map.2 ⟨_,wz,O⟩) b (List.mem_map.2 ⟨_,hb,O⟩) O
 have hk:∀b,(∀o,(b,o)∉A)->Me k A b=k b:=fun b hb=>Ee (by
  cases e:A.lookup b with
  | none=>rfl
  | some o=>exact absurd (jO e) (hb o))
 refine⟨⟨fun b o hb=>?_,fun b o hb=>?_,uX.2.1,fun b o hm hb ho=>?_,fun b hb=>?_⟩,fun b hm hF=>⟨⟨hm,fun o ho=>hF o (jm _ ho)⟩,fun o ho=>hF o (bZ _ ho)⟩⟩
 ·rw[hk b fun o' mM=>by rw[(S.own b o' (jm _ mM)).2.2]at hb;cases hb];exact S.sub b o hb
 ·have:=S.own b o (bZ _ hb);exact⟨by rw[hk b (hnA b o hb)];exact this.1,⟨this.2.1,hnA b o hb⟩,this.2.2⟩
 ·have h2:=(sJ hb).2;rcases S.all b o hm.1 h2 ho with h3 | h3
  ·rcases dh.1 h3 with h3 | h3
   ·exact absurd h3 (hm.2 o)
   exact .inl h3
  exact .inr h3
 obtain⟨h1,h2⟩:=S.Je b hb;exact⟨fun h=>h1 h.1,by rw[hk b fun o ho=>h1 (S.own b o (jm _ ho)).2.1];exact h2⟩

section rules
variable{x:Cx}{Q:fO}{ρ:Env}{ds:List Deferred}{F:ah}{ops:Array Oper}{i:Nat}{rest:List Nat}{o:Oper}
theorem aA.aqb{left:Nat}(τ:Nat){args:List Operand}{ts:Array TypeId}{fi:Array Value}{vs:List Value}(hS:∀S,x.main.ok S->∃Fin,S=qQ x.P Fin (some γ) 0)(hb:x.main.b=true)(ho:ops[i]? =some o)(aY:o.op= .go ⟨.value y,args.toArray,ts⟩)(hw:gY ops ρ o)(hd:iy o.dst x.n=true)
  (hy:ev ρ y=some (.func (.func f) fi ca)) (hv:jv ρ args=some vs) (hA:∀b o,(b,o)∈A->o.isChan=false) (hl:At γ.Wg (tu 1 j (left+1)) F U) (hX:(γ.X,bn c m)∈F) (hm:c.size<=m)
  (hc:∀kc M,Sat (dM (Hg x.h) γ.X (bn c γ.q)) A kc M->Wk x.P γ τ (xX x.P {target:=.fn (.func f) ca,args:=fi++vs.toArray}) kc M)
  (H:aA x ops rest Q (put ρ o.dst undef) ds (U (tu 0 (j++[τ]) left))):aA x ops (i::rest) Q ρ ds (A++F):=by
 classical
 intro b k cs Stop tmps hk M h1 h0 h2 h3 h4 h5 Z7;have fA:(b.kind==CallKind.early)=false:=by simpa using h2.1
 obtain⟨e1,e2,_,_⟩:=h5.FC (o':=tu 0 (j++[τ]) left) (At.app (B:=A) hl);obtain⟨S1,f1⟩:=h5.forget;obtain⟨e3,e4,S2,f2⟩:=S1.FC (o':=tu 0 (j++[τ]) left) hl;obtain⟨Ex,eS⟩:=hS _ Stop.2.1;obtain⟨p1,p2⟩:=h3.Jg h4 hd undef;have eG:Gs x.P x.main Stop=J4 x.P true (qQ x.P Ex (some γ) 0):=by funext g k M;unfold Gs;rw[hb,eS]
 have:=H b k cs Stop _ _ _ h1 h0 h2 p1 p2 S2 fun e gW iT G bC fA M' q a1 a2 a3 a4=>Z7 e gW iT G bC fA M' q a1 a2 a3 ((f1.trans f2).trans a4);rw[eG]at this⊢;have own:∀b o,(b,o)∈A->hk b=some o/\M b/\x.h b=none:=fun b o hb=>h5.own b o (jm _ hb);have atF:=h5.own _ _ (bZ A hX);have uX:=h5.nodup;rw[List.map_append,List.nodup_append]at uX
 have hAX:∀o,(γ.X,o)∉A:=fun o hb=>by
  have:=(own _ o hb).1;rw[atF.1]at this;cases this;have:=hA _ _ hb
  cases this
 have Jf:∀b o,qN (dM (Hg x.h) γ.X (bn c γ.q)) A b=some o->(b,o)∈A\/(b=γ.X/\o=bn c γ.q)\/(b≠γ.X/\x.h.z b/\x.h b=some o/\o.isChan=false):=fun b o e=>by
  rcases Uz e with e | e
  ·exact .inl e
  rcases aZ e with e | ⟨e0,e⟩
  ·exact .inr (.inl e)
  obtain⟨q1,q2,q3⟩:=TG e;exact .inr (.inr ⟨e0,q1,q2,q3⟩)
 refine .stop (.work (A:=A) (kc:=qN (dM (Hg x.h) γ.X (bn c γ.q)) A) (M':=fun b=>M b/\∀o,(b,o)∉A) O O O (anU ho aY (hw.wanted h3) fA (h3.ev hy) (by rw[List.map_toArray,oK (fun _ _ h=>h3.ev h) hv])) e1 e2 (fun b o e=>?_) (fun b o hb=>⟨NJ uX.1 hb,(own b o hb).1,(own b o hb).2.1,hA b o hb⟩) (hc _ _ ?_) ⟨fun b hb=>hb.1,fun b o hm hn ho=>?_⟩ e4 (fun b QZ hs hm=>?_) ?_)
 ·rcases Jf b o e with e | ⟨rfl,rfl⟩ | ⟨_,_,q2,q3⟩
  ·exact .inl ⟨(own b o e).1,hA b o e⟩
  ·exact .inr ⟨O,c,m,atF.1,hm,O⟩
  exact .inl ⟨h5.sub b o q2,q3⟩
 ·refine⟨fun b o e=>?_,fun b o hb=>⟨NJ uX.1 hb,⟨o,hb⟩,?_⟩,uX.1,fun b o hm e ho=>?_,fun b hb=>hb.elim⟩
  ·rw[abb fun o' mM=>?_]
   ·exact e
   rcases aZ e with⟨rfl,_⟩ | ⟨_,e⟩
   ·exact hAX o' mM
   have q2:=(TG e).2.1;rw[(own b o' mM).2.2]at q2;cases q2
  ·cases e:dM (Hg x.h) γ.X (bn c γ.q) b with
   | none=>rfl
   | some o'=>
    rcases aZ e with⟨rfl,_⟩ | ⟨_,e⟩
    ·exact absurd hb (hAX o)
    have q2:=(TG e).2.1;rw[(own b o hb).2.2]at q2;cases q2
  obtain⟨o',hm⟩:=hm;rw[NJ uX.1 hm]at e
  cases e
  rw[Gu (hA b _ hm)]at ho;cases ho
 ·by_cases wz:∃o',(b,o')∈A
  ·obtain⟨o',wz⟩:=wz;rw[(own b o' wz).1]at ho;cases ho;exact Gu (hA b _ wz)
  exact absurd ⟨hm,fun o' mM=>wz ⟨o',mM⟩⟩ hn
 ·obtain⟨o,e⟩:=iJ.1 hs;rcases Jf b o e with e | ⟨rfl,_⟩ | ⟨_,q1,_⟩
  ·exact hm.2 o e
  ·exact QZ O
  exact(h5.Je b q1).1 hm.1
 rw[fQ (b:=b) (t:=tmps) (ds:=ds) (k:=k) (cs:=cs) (rest:=rest) ho undef];exact qQ.ng this
end rules
end Go.jc

namespace Go.jc
structure VS where
 o:Obj
 d:Nat
inductive VA where
 | Kr | en
 | mk (m:Mark)
 | ld (off:Nat)
 | st (off:Nat) (v:Value)
 | rw(off:Nat) (v:Value)
 | Ym
def VA.obj(a:VA)(o:Obj):Obj:=
 match a,o with
 | .st off v,.cells c t fz=>.cells (c.setIfInBounds off v) t fz
 | .rw off v,.cells c t fz=>.cells (c.setIfInBounds off v) t fz
 | _,o=>o
def VA.dep(a:VA)(d:Nat):Nat:=match a with | .Kr=>d+1 | .en=>d-1 | _=>d
def VA.LG(B:Nat)(a:VA)(w:World):World:=match a with | .st off v=>w.setCell ⟨B,off,none⟩ v | .rw off v=>w.setCell ⟨B,off,none⟩ v | _=>w
def VA.jv(B:Nat):VA->Array Event
 | .Kr=> #[yw .disable]
 | .en=> #[yw .enable]
 | .mk m=> #[yw m]
 | .ld off=> #[FM ⟨B,off,none⟩]
 | .st off _=> #[Kt ⟨B,off,none⟩]
 | .rw off _=> #[FM ⟨B,off,none⟩,Kt ⟨B,off,none⟩]
 | .Ym=> #[]
def VA.can(a:VA)(s:VS):Prop:=
 match a with
 | .en=>0<s.d
 | .mk m=>(∃b,m= .acquire b)\/∃b,m= .releaseMerge b
 | _=>True
def mQ(B:Nat):qL where
 S:=VS
 A:=VA
 X:=Obj
 at_ w x:=w.heap[B]? =some x
 can:=VA.can
 rel _ s x:=x=s.o
 blk _ _:=False
 nxt a s _ s':=s'=⟨a.obj s.o,a.dep s.d⟩
 LG a _ w:=a.LG B w
 jv a _:=a.jv B
 wak _:=False
 free a:=a= .Kr\/a= .en

variable{E:VS->Goroutine->Prop}{Fin:Goroutine->Hp->(Nat->Prop)->Prop}{a b:Int}{args:List Operand}{c y z:Operand}{f:FuncId}{g:Goroutine}{h:Hp}{j:Nat}{k k':IntKind}{o:Oper}{t t':TypeId}{ts:Array TypeId}{v:Value}{vs:List Value}{γ:GP}{ρ:Env}
section
variable{P:Program}{k:Hp}{M:Nat->Prop}{w:World}{B:Nat}{a:VA}{o:Obj}{d:Nat}
theorem VA.deaf(a:VA)(h:a.can ⟨o,d⟩):deafBehind d (a.jv B)=a.dep d:=by
 cases a with
 | mk m=>rcases h with⟨b,rfl⟩ | ⟨b,rfl⟩ <;>rfl
 | _=>rfl
theorem VA.V3(
        a:VA) (h:a.can ⟨o,d⟩) (hk:k B=some o) (hM:M B) (ho:o.isChan=false):Ox k M d (a.jv B) (a.dep d):=by
 have own:∀off,M (⟨B,off,none⟩:Addr).block/\(k (⟨B,off,none⟩:Addr).block).isSome=true/\lI (k (⟨B,off,none⟩:Addr).block)=false:=fun off=>⟨hM,by simp[hk],by simp[hk,lI,ho]⟩
 refine⟨fun e he=>?_,a.deaf h⟩
 cases a with
 | Kr=>
      obtain rfl:e=_:=by simpa[VA.jv]using he
      exact .inl O
 | en=>
     obtain rfl:e=_:=by simpa[VA.jv]using he
     exact .inr (.inl O)
 | mk m=>
  obtain rfl:e=_:=by simpa[VA.jv]using he
  rcases h with⟨b,rfl⟩ | ⟨b,rfl⟩
  ·exact .inr (.inr (.inl ⟨_,O⟩))
  exact .inr (.inr (.inr (.inl ⟨_,O⟩)))
 | ld off=>
       obtain rfl:e=_:=by simpa[VA.jv]using he
       exact .inr (.inr (.inr (.inr ⟨_,.inl O,own off⟩)))
 | st off v=>
        obtain rfl:e=_:=by simpa[VA.jv]using he
        exact .inr (.inr (.inr (.inr ⟨_,.inr O,own off⟩)))
 | rw off v=>
  rcases(by simpa[VA.jv]using he:e=FM ⟨B,off,none⟩\/e=Kt ⟨B,off,none⟩)with rfl | rfl
  ·exact .inr (.inr (.inr (.inr ⟨_,.inl O,own off⟩)))
  exact .inr (.inr (.inr (.inr ⟨_,.inr O,own off⟩)))
 | Ym=>simp[VA.jv]at he
theorem UA(a:VA)(ho:o.isChan=false):(a.obj o).isChan=false:=by
 cases a <;>cases o <;>first | exact ho | rfl
theorem VA.heap(a:VA)(hw:w.heap[B]? =some o):(a.LG B w).heap[B]? =some (a.obj o)/\(∀b,b≠B->(a.LG B w).heap[b]? =w.heap[b]?)/\(a.LG B w).heap.size=w.heap.size/\(a.LG B w).os=w.os/\(a.LG B w).output=w.output/\(a.LG B w).tape=w.tape:=by
 have set:∀off v,(w.setCell ⟨B,off,none⟩ v).heap[B]? =some ((VA.st off v).obj o):=fun off v=>by
  cases o with
  | cells c t fz=>exact Ei hw
  | _=>simp[World.setCell,Array.getElem?_modify,hw,VA.obj]
 cases a with
 | st off v=>exact⟨set off v,fun b hb=>wX hb,qh,rfl,rfl,rfl⟩
 | rw off v=>exact⟨by have:=set off v;cases o <;>exact this,fun b hb=>wX hb,qh,rfl,rfl,rfl⟩
 | _=>exact⟨hw,fun _ _=>rfl,rfl,rfl,rfl,rfl⟩
theorem VA.Ji(a:VA)(hw:w.heap[B]? =some o)(ho:o.isChan=false)(hk:k B=some o)(hM:M B):iR k M w (a.LG B w) #[]:=by
 obtain⟨h1,h2,h3,h4,h5,h6⟩:=a.heap hw;have ne:∀{b o'},w.heap[b]? =some o'->o'.isChan=true->b≠B:=fun hb hc e=>by rw[e,hw]at hb;cases hb;rw[ho]at hc;cases hc
 refine⟨by rw[h3];exact Nat.le_refl _,fun b _ hb=>h2 b fun e=>hb (e▸hM),fun b o' hb hc=>by rw[h2 b (ne hb hc)];exact hb,fun b o' hb wz _=>?_,fun b o1 o2 hb hc wz=>?_,fun b o' hb hf=>h2 b fun e=>?_,h4,h5,h6,fun e he=>by simp at he⟩
 ·rw[Array.getElem?_eq_none (by rw[h3];exact hb)]at wz;cases wz
 ·by_cases e:b=B
  ·rw[e,h1]at wz;cases wz;exact UA a ho
  rw[h2 b e,hb]at wz;cases wz;exact hc
 rw[e,hk]at hb;cases hb;rw[eP hf]at ho;cases ho
theorem VA.snap(a:VA)(ha:yP k w)(hw:w.heap[B]? =some o)(ho:o.isChan=false)(hk:k B=some o):snap k w (a.LG B w)=dM k B (a.obj o):=by
 obtain⟨h1,h2,h3,_⟩:=a.heap hw;refine Hp.ext' (fun b=>?_) O;by_cases e:b=B
 ·subst e;rw[bP];simp[jc.snap,hk,lI,ho,h1]
 rw[bJ _ _ e];have h5:=congrArg (fun h:Hp=>h b) (vF ha);simp only[jc.snap]at h5⊢;rw[h2 b e,h3];exact h5
theorem VA.grown(a:VA)(hw:w.heap[B]? =some o):grown M w (a.LG B w)=M:=by
 obtain⟨_,_,h3,_⟩:=a.heap hw;funext b;have:¬(w.heap.size<=b/\b<w.heap.size):=by omega
 simp[jc.grown,h3,this]
theorem Xq{k:Hp}{b:Nat}{o o':Obj}:dM (dM k b o) b o'=dM k b o':=Hp.ext' (fun x=>by
 by_cases e:x=b
 ·subst e;rw[bP,bP]
 rw[bJ _ _ e,bJ _ _ e,bJ _ _ e]) O
theorem Xr{k:Hp}{b:Nat}{o:Obj}(h:k b=some o):dM k b o=k:=Hp.ext' (fun x=>by
 by_cases e:x=b
 ·subst e;rw[bP,h]
 rw[bJ _ _ e]) O

theorem lD.atG{q:Option GP}{s:(mQ B).S}(T:lD P true (mQ B) E s g):∀{k:Hp},k B=some (VS.o s)->M B->(VS.o s).isChan=false->(∀s' g',E s' g'->qQ P Fin q s'.d g' (dM k B s'.o) M)->qQ P Fin q (VS.d s) g k M:=by
 induction T with
 | exit hs h=>exact fun hk _ _ hE=>by have:=hE _ _ h;rwa[Xr hk]at this
 | idle hs e T ih=>
  intro k hk hM ho hE;refine .step hs (fun w ha hd=>⟨_,w, #[],e w,.refl⟩) fun w g' w' es ha hd e'=>?_;rw[e w]at e';cases e';rw[vF ha,rG];exact ih hk hM ho hE
 | act a hs hc hof wait ok wk fr h ih=>
  rename_i s g;intro k hk hM ho hE
  have st:∀w,yP k w->∃g',stepG P true g w= .go g' (VA.LG B a w) (VA.jv B a)/\w.heap[B]? =some (VS.o s):=fun w ha=>by
   have hw:=ha.get hk ho;obtain⟨g',h1,_⟩:=ok w _ hw rfl (fun h=>h);exact⟨g',h1,hw⟩
  refine .y9 (d':=VA.dep a (VS.d s)) hs (fun w ha hd=>?_) fun w g' w' es ha hd e'=>?_
  ·obtain⟨g',h1,hw⟩:=st w ha;exact⟨g',_,_,h1,VA.Ji a hw ho hk hM,VA.V3 a hc hk hM ho⟩
  obtain⟨iF,h1,hw⟩:=st w ha;have e2:=e';rw[h1]at e2;cases e2;rw[VA.snap a ha hw ho hk,VA.grown a hw];exact ih w _ g' _ _ ⟨VA.obj a (VS.o s),VA.dep a (VS.d s)⟩ hw O (fun h=>h) e' rfl (k:=dM k B (VA.obj a (VS.o s))) (bP _ _ _) hM (UA a ho) fun s' g' h=>by rw[Xq];exact hE s' g' h
theorem lD.atH{s:(mQ B).S}(T:lD P false (mQ B) E s g):∀{k:Hp},k B=some (VS.o s)->M B->(VS.o s).isChan=false->(∀s' g',E s' g'->Nonempty (Vg P γ j s'.d g' (dM k B s'.o) M))->Nonempty (Vg P γ j (VS.d s) g k M):=by
 induction T with
 | exit hs h=>exact fun hk _ _ hE=>by have:=hE _ _ h;rwa[Xr hk]at this
 | idle hs e T ih=>
  intro k hk hM ho hE;refine⟨.step hs (fun w ha hd=>⟨_,w, #[],e w,.refl⟩) fun w g' w' es ha hd e'=>Classical.choice ?_⟩;rw[e w]at e';cases e';rw[vF ha,rG];exact ih hk hM ho hE
 | act a hs hc hof wait ok wk fr h ih=>
  rename_i s g;intro k hk hM ho hE
  have st:∀w,yP k w->∃g',stepG P false g w= .go g' (VA.LG B a w) (VA.jv B a)/\w.heap[B]? =some (VS.o s):=fun w ha=>by
   have hw:=ha.get hk ho;obtain⟨g',h1,_⟩:=ok w _ hw rfl (fun h=>h);exact⟨g',h1,hw⟩
  refine⟨.y9 (d':=VA.dep a (VS.d s)) hs (fun w ha hd=>?_) fun w g' w' es ha hd e'=>Classical.choice ?_⟩
  ·obtain⟨g',h1,hw⟩:=st w ha;exact⟨g',_,_,h1,VA.Ji a hw ho hk hM,VA.V3 a hc hk hM ho⟩
  obtain⟨iF,h1,hw⟩:=st w ha;have e2:=e';rw[h1]at e2;cases e2;rw[VA.snap a ha hw ho hk,VA.grown a hw];exact ih w _ g' _ _ ⟨VA.obj a (VS.o s),VA.dep a (VS.d s)⟩ hw O (fun h=>h) e' rfl (k:=dM k B (VA.obj a (VS.o s))) (bP _ _ _) hM (UA a ho) fun s' g' h=>by rw[Xq];exact hE s' g' h

structure Zi(P:Program)(b:Bool)(S:Goroutine->Hp->(Nat->Prop)->Prop):Prop where
 abs:∀g k M,J4 P b S g k M->S g k M
 walk:∀(B:Nat) (s:VS) (g:Goroutine) (k:Hp) (M:Nat->Prop) (E:VS->Goroutine->Prop),lD P b (mQ B) E s g->k B=some s.o->M B->s.o.isChan=false->s.d=0->(∀s' g',E s' g'->s'.d=0/\S g' (dM k B s'.o) M)->S g k M
theorem Zi.mnd{q:Option GP}:Zi P true (qQ P Fin q 0):=
 ⟨fun _ _ _ h=>qQ.ng h,fun B s g k M E T hk hM ho h0 hE=>h0▸lD.atG T hk hM ho fun s' g' h=>let⟨h1,h2⟩:=hE s' g' h;h1.symm▸h2⟩
theorem Zi.wk:Zi P false (Wk P γ j):=
 ⟨fun _ _ _ h=>Wk.ng h,fun B s g k M E T hk hM ho h0 hE=>by
  have:=lD.atH (γ:=γ) (j:=j) T hk hM ho fun s' g' h=>by
   obtain⟨h1,h2⟩:=hE s' g' h;rw[h1];exact h2
  rwa[h0]at this⟩
def r_(P:Program)(main:aN):Prop:=∀S,main.ok S->Zi P main.b S
theorem r_.main:r_ P (G_ P Fin):=fun _ h=>h▸Zi.mnd
theorem r_.Td:r_ P (alE P γ):=fun _ ⟨_,h⟩=>h▸Zi.mnd
theorem r_.wk:r_ P (wkS P γ j):=fun _ h=>h▸Zi.wk

theorem bG.YA{main:aN}{args:Array Value}{R:Value->Obj->Prop}(hP:r_ P main)(ho:o.isChan=false)(H:nJ P main.b (mQ B) f args ⟨o,0⟩ fun v s=>VS.d s=0/\R v (VS.o s)):bG P main f args h [(B,o)] fun v F=>∃o',F=[(B,o')]/\R v o':=by
 intro c cs Stop hk M S hc;obtain⟨hM,hw⟩:=hP _ Stop.2.1;have hB:=S.own _ _ (bT ..);refine .stop (hw B ⟨o,0⟩ _ hk M (fun s g=>∃v,(s.d=0/\R v s.o)/\g=G (c.finish v) cs) (H c cs _ fun v s' r=>?_) hB.1 hB.2.1 ho O ?_)
 ·exact .exit O ⟨v,r,O⟩
 rintro s' g' ⟨v,r,rfl⟩;obtain⟨_,_,S1,f1⟩:=S.FC (o':=s'.o) At.head;exact⟨r.1,hM _ _ _ (hc v _ _ _ ⟨_,O,r.2⟩ S1 f1)⟩
theorem QN.YA{main:aN}{args:Array Value}{R:Obj->Prop}(hP:r_ P main)(ho:o.isChan=false)(H:LFD P main.b (mQ B) f args ⟨o,0⟩ fun s=>VS.d s=0/\R (VS.o s)):QN P main f args h [(B,o)] fun F=>∃o',F=[(B,o')]/\R o':=by
 intro c cs Stop hk M hm S hc;obtain⟨hM,hw⟩:=hP _ Stop.2.1;have hB:=S.own _ _ (bT ..);refine .stop (hw B ⟨o,0⟩ _ hk M (fun s g=>(s.d=0/\R s.o)/\g=G c cs) (H c cs _ ?_ fun s' r=>?_) hB.1 hB.2.1 ho O ?_)
 ·exact fun r o' h=>by rw[hm]at h;cases h
 ·exact .exit O ⟨r,O⟩
 rintro s' g' ⟨r,rfl⟩;obtain⟨_,_,S1,f1⟩:=S.FC (o':=s'.o) At.head;exact⟨r.1,hM _ _ _ (hc _ _ _ ⟨_,O,r.2⟩ S1 f1)⟩
end
theorem ae7{α:Type}{P:Program}{w:World}{es:Array Event}:∀{s:Sem α} {a:α},V3 P s=some a->s.runT P w es=(.ok a w,es)
  | .pure b,a,e=>by simp only[V3,dY]at e;subst e;rfl
  | .program k,a,e=>ae7 (s:=k P) e
  | .load ..,_,e=>by cases e
  | .store ..,_,e=>by cases e
  | .new ..,_,e=>by cases e
  | .shape ..,_,e=>by cases e
  | .freeze ..,_,e=>by cases e
  | .frozen ..,_,e=>by cases e
  | .getObj ..,_,e=>by cases e
  | .setObj ..,_,e=>by cases e
  | .choose ..,_,e=>by cases e
  | .sys ..,_,e=>by cases e
  | .mark ..,_,e=>by cases e
  | .halt _,_,e=>by cases e

def Pv(x:Lx)(ρ:Env)(o:Oper)(v:Value):Prop:=∀e,Kn1 ρ e->V3 x.P (execOp e o)=some (.value v)
theorem Pv.cv{x:Lx}(h:Pv x ρ o v):Cv x ρ o v:=fun e he=>⟨#[],O,fun w=>ae7 (h e he)⟩

section
variable{x:Lx}{ρ:Env}{o:Oper}{v:Value}
theorem aP(ho:o.op= .move y)(hy:ev ρ y=some v):Pv x ρ o v:=fun e he=>by simp only[execOp,ho,he y v hy];rfl
theorem gV(ho:o.op= .assign y)(hy:ev ρ y=some v):Pv x ρ o v:=fun e he=>by simp only[execOp,ho,he y v hy];rfl
theorem wK{a b:Operand}(ho:o.op= .pick c a b)(hc:ev ρ c=some (.bool true))(hy:ev ρ a=some v):Pv x ρ o v:=fun e he=>by simp only[execOp,ho,he c _ hc,he a v hy];rfl
theorem oO{a b:Operand}(ho:o.op= .pick c a b)(hc:ev ρ c=some (.bool false))(hy:ev ρ b=some v):Pv x ρ o v:=fun e he=>by simp only[execOp,ho,he c _ hc,he b v hy];rfl
theorem dW{a:Addr}(ho:o.op= .nilCheck y)(hy:ev ρ y=some (.pointer (some a))):Pv x ρ o (.pointer (some a)):=fun e he=>by simp only[execOp,ho,he y _ hy];rfl
theorem NK{op:BinOp}{u:Value}(ho:o.op= .binOp op t y z t')(hy:ev ρ y=some (.int k a))(hz:ev ρ z=some (.int k' b))(h:binOp op t (.int k a) (.int k' b)= .pure u):Pv x ρ o u:=fun e he=>by
  have hg:eqGuard op t y z (.int k a) (.int k' b)= .pure ():=by
    unfold eqGuard;split <;>rfl
  simp only[execOp,ho,he y _ hy,he z _ hz,hg,bind_eq,au,bind_assoc,bind_pure,h]
  rfl
theorem aqc(ho:o.op= .binOp .add t y z t')(hy:ev ρ y=some (.int k a))(hz:ev ρ z=some (.int k b)):Pv x ρ o (.int k (k.wrap (a+b))):=NK ho hy hz (by cases k <;>rfl)
theorem ajp(ho:o.op= .binOp .sub t y z t')(hy:ev ρ y=some (.int k a))(hz:ev ρ z=some (.int k b)):Pv x ρ o (.int k (k.wrap (a-b))):=NK ho hy hz (by cases k <;>rfl)
theorem abe(ho:o.op= .binOp .lss t y z t')(hy:ev ρ y=some (.int k a))(hz:ev ρ z=some (.int k b)):Pv x ρ o (.bool (decide (a<b))):=NK ho hy hz (by cases k <;>rfl)
theorem UC(ho:o.op= .binOp .gtr t y z t')(hy:ev ρ y=some (.int k a))(hz:ev ρ z=some (.int k b)):Pv x ρ o (.bool (decide (b<a))):=NK ho hy hz (by cases k <;>rfl)
theorem Xt(ho:o.op= .binOp .eql t y z t')(hy:ev ρ y=some (.int k a))(hz:ev ρ z=some (.int k b)):Pv x ρ o (.bool (decide (a=b))):=NK ho hy hz (by rw[<-QU];cases k <;>rfl)
theorem Bh(ho:o.op= .binOp .neq t y z t')(hy:ev ρ y=some (.int k a))(hz:ev ρ z=some (.int k b)):Pv x ρ o (.bool (decide (a≠b))):=NK ho hy hz (by
    have:decide (a≠b)=(a !=b):=by by_cases h:a=b <;>simp[h]
    rw[this];cases k <;>rfl)
theorem ajq(ho:o.op= .binOp .shr t y z t')(hy:ev ρ y=some (.int k a))(hz:ev ρ z=some (.int k' b))(hb:0<=b):Pv x ρ o (.int k (a.fdiv (2 ^ (min b.toNat k.bits)))):=
  NK ho hy hz (by
                     have:¬b<0:=by omega
                     simp only[binOp,Op.shift,if_neg this];rfl)
theorem UD(ho:o.op= .binOp .and t y z t')(hy:ev ρ y=some (.int k a))(hz:ev ρ z=some (.int k b)):Pv x ρ o (.int k (bits .and k a b)):=NK ho hy hz (by cases k <;>rfl)
theorem FD{P:Program}{d:TypeDesc}[i:TD P t d]{β:Type}{f:TypeDesc->Sem β}:V3 P ((underlying t).bind f)=V3 P (f d):=by
  simp only[underlying,program,bind_eq,au,Sem.bind,V3,i.out]
theorem EP{d:TypeDesc}{n:Int}(ho:o.op= .convert t t' y)[TD x.P t d][TD x.P t' (.int k')](hy:ev ρ y=some (.int k n)):Pv x ρ o (.int k' (k'.wrap n)):=fun e he=>by
  simp only[execOp,ho,he y _ hy,convert,Conv.intToInt,bind_eq,au,bind_assoc,bind_pure,FD]
  cases d <;>rfl
theorem cO{s f J8 ft:Nat}{a:Operand}{b off:Nat}(ho:o.op= .fieldAddr s a f)[i:FA x.P s f J8 ft](ha:ev ρ a=some (.pointer (some ⟨b,off,none⟩))):Pv x ρ o (.pointer (some ⟨b,off+J8,none⟩)):=fun e he=>by
  obtain⟨fs,fl,j,h1,h2,h3,h4,h5,h6⟩:=i.out;have hu:TD x.P s (.struct fs):=⟨h1⟩
  subst h4
  have ht:∀{β:Type} {f:TypeInfo->Sem β},V3 x.P ((typeInfo fl.type).bind f)=V3 x.P (f j):=fun{β f}=>by
    simp only[typeInfo,program,bind_eq,au,Sem.bind,V3,h5]
  simp only[execOp,ho,he a _ ha,Instr.fieldAt,Instr.sureAddr,fieldPlace,sizeOf,bind_eq,au,bind_assoc,bind_pure,FD,h2,ht,if_neg h6,kF,h3]
  rfl
end
open Go.Conc (events_callFunc_extern seen_entry)
section
variable{P:Program}{f:FuncId}{e:Array Value->Sem Value}{args:Array Value}{w w':World}
theorem Zj[i:XF P f e]{jv:Array Event}(uT:(e args).run P w= .ok v w')(hev:(e args).events P w #[⟨.mark (.extern f),false,true⟩]= #[⟨.mark (.extern f),false,true⟩]++jv)
  (hs:∀x∈jv,x.sync=true/\∀g,x.loc≠ .mark (.extern g)):∃es,(callFunc f args).runT P w #[]=(.ok (.value v) w',es)/\∀fn,seen P fn es=jv:=by
 obtain⟨fn,h1,h2,h3,h4,h5⟩:=i.out;have VX:Extern.findNext fn=none:=by simpa using h4
 refine⟨#[⟨.mark (.extern f),false,true⟩]++jv,?_,fun fn'=>seen_entry _ _ _ hs⟩;rw[Sem.runT_eq,run_callFunc_extern h1 h2 h3 VX h5,uT,events_callFunc_extern h1 h2 h3 VX h5];simp only[List.push_toArray,List.nil_append];rw[hev]
 rfl
theorem abf[i:XF P f e](uT:(e args).run P w= .halt .blocked w'):∃es,(callFunc f args).runT P w #[]=(.halt .blocked w',es):=by
 obtain⟨fn,h1,h2,h3,h4,h5⟩:=i.out;have VX:Extern.findNext fn=none:=by simpa using h4
 refine⟨(callFunc f args).events P w #[],?_⟩;rw[Sem.runT_eq,run_callFunc_extern h1 h2 h3 VX h5,uT]
 rfl
end
theorem zM{ee:Operand->Value}(he:Kn1 ρ ee)(aY:o.op= .call ⟨.value (.func f),args.toArray,ts⟩)(hv:jv ρ args=some vs):execOp ee o=callFunc f vs.toArray:=by
 have e3:ee (.func f)= .func (.func f) #[] #[]:=he _ _ O;unfold execOp;simp only[aY,resolve,Deferred.ofValue,e3,bind_eq,au,bind_pure,invoke,List.map_toArray,oK he hv,List.append_toArray,List.nil_append,List.append_nil]

section
variable{x:Lx}{Q:qM x.π}{ρ:Env}{ds:List Deferred}{s:x.π.S}{ops:Array Oper}{i:Nat}{rest:List Nat}
def Yields(P:Program)(f:FuncId)(s:Sem Value)(w:World)(v:Value)(w':World)(jv:Array Event):Prop:=
 s.run P w= .ok v w'/\s.events P w #[⟨.mark (.extern f),false,true⟩]= #[⟨.mark (.extern f),false,true⟩]++jv/\∀x∈jv,x.sync=true/\∀g,x.loc≠ .mark (.extern g)

theorem LO.ext(a:x.π.A){e:Array Value->Sem Value}[XF x.P f e](ho:ops[i]? =some o)(aY:o.op= .call ⟨.value (.func f),args.toArray,ts⟩)(hv:jv ρ args=some vs)(hw:gY ops ρ o)(hd:iy o.dst x.n=true)(iV:x.π.can a s)
  (hb:∀w y,x.π.at_ w y->x.π.rel a s y->x.π.blk a y->(e vs.toArray).run x.P w= .halt .blocked w)
  (ok:∀w y,x.π.at_ w y->x.π.rel a s y->¬x.π.blk a y->∃v,Yields x.P f (e vs.toArray) w v (x.π.LG a y w) (x.π.jv a y)/\∀s',x.π.nxt a s y s'->LO x ops rest Q (put ρ o.dst v) ds s')
  (fr:x.π.free a->∃v jv,(∀ev∈jv,Event.mute ev=true)/\∀w,Yields x.P f (e vs.toArray) w v w jv):LO x ops (i::rest) Q ρ ds s:=by
 obtain⟨fn,h1,h2,h3,h4,h5⟩:=(inferInstance:XF x.P f e).out;refine LO.act a ho hw hd (fun c=>by rw[aY];simp) iV (fun ee he w y q1 q2 q3=>?_) (fun ee he w y q1 q2 q3=>?_) (fun hk ee he=>?_) (fun hf ee he=>?_)
 ·obtain⟨es,r⟩:=abf (f:=f) (e:=e) (hb w y q1 q2 q3);exact⟨es,w,by rw[zM he aY hv];exact r,O⟩
 ·obtain⟨v,⟨r1,r2,r3⟩,r4⟩:=ok w y q1 q2 q3;obtain⟨es,r5,r6⟩:=Zj (f:=f) (e:=e) r1 r2 r3;exact⟨v,es,by rw[zM he aY hv];exact r5,r6 _,r4⟩
 ·refine⟨.func f,f,args.toArray,ts,aY,he _ _ O,?_⟩;simp only[Option.isNone_iff_eq_none]at h3;simp[h1,h3]
 obtain⟨v,jv,hm,hy⟩:=fr hf
 have key:∀w,∃es,(callFunc f vs.toArray).runT x.P w #[]=(.ok (.value v) w,es)/\es= #[⟨.mark (.extern f),false,true⟩]++jv/\∀fn,seen x.P fn es=jv:=fun w=>by
  obtain⟨r1,r2,r3⟩:=hy w;have VX:Extern.findNext fn=none:=by simpa using h4
  refine⟨_,?_,O,fun fn'=>seen_entry _ _ _ r3⟩;rw[Sem.runT_eq,run_callFunc_extern h1 h2 h3 VX h5,r1,events_callFunc_extern h1 h2 h3 VX h5];simp only[List.push_toArray,List.nil_append];rw[r2]
  rfl
 refine⟨v, #[⟨.mark (.extern f),false,true⟩]++jv,?_,fun w=>?_⟩
 ·obtain⟨es,_,e2,e3⟩:=key default;rw[<-e2,e3];exact hm
 obtain⟨es,e1,e2,_⟩:=key w;rw[zM he aY hv,e1,e2]
end
end Go.jc

namespace Go.jc
open Go.Conc
variable{k:IntKind}{m:Mark}
theorem ae8(hm:∀g,m≠ .extern g):∀x∈(#[yw m]:Array Event),x.sync=true/\∀g,x.loc≠ .mark (.extern g):=by
 intro x hx;simp[yw]at hx;subst hx;exact⟨O,fun g h=>hm g (Loc.mark.inj h)⟩

section
variable{P:Program}{f:FuncId}{w:World}{args:Array Value}{ad:Addr}
theorem oD(hm:∀g,m≠ .extern g):Yields P f ((fun _=>do Go.mark m;pure Extern.Race.none_:Array Value->Sem Value) args) w (.tuple #[]) w #[yw m]:=
 ⟨by simp[Extern.Race.none_],by simp[yw],ae8 hm⟩
theorem vW{mk:Addr->Mark}(hm:∀ad g,mk ad≠ .extern g)(hx:args[0]? =some (.pointer (some ad))):Yields P f (Extern.Race.marked mk args) w (.tuple #[]) w #[yw (mk ad)]:=
 ⟨by simp[Extern.Race.marked,Extern.Race.at_,hx,Extern.Race.none_],by simp[Extern.Race.marked,Extern.Race.at_,hx,yw],ae8 (hm ad)⟩
theorem ajr{v d:Int}(hc:w.cell? ad=some (.int k v))(hz:w.frozen? ad=false):
  Yields P f (Extern.Atomic.update (Op.intArith .add) k true #[.pointer (some ad),.int k d]) w (.int k (k.wrap (v+d))) (w.setCell ad (.int k (k.wrap (v+d)))) #[FM ad,Kt ad]:=
 ⟨run_add_entry hc hz,by rw[events_add_entry hc hz];rfl,sync_rw ad⟩
theorem ajs{v n:Int}(hc:w.cell? ad=some (.int k v))(hz:w.frozen? ad=false):
  Yields P f (Extern.Atomic.casT (.int k) #[.pointer (some ad),.int k v,.int k n]) w (.bool true) (w.setCell ad (.int k n)) #[FM ad,Kt ad]:=
 ⟨by rw[casT_eq];exact run_cas_hit_entry hc hz,by rw[casT_eq,events_cas_hit_entry hc hz];rfl,sync_rw ad⟩
theorem amn{v old n:Int}(hc:w.cell? ad=some (.int k v))(hz:w.frozen? ad=false)(iK:¬v=old):
  Yields P f (Extern.Atomic.casT (.int k) #[.pointer (some ad),.int k old,.int k n]) w (.bool false) w #[FM ad]:=
 ⟨by rw[casT_eq];exact run_cas_miss_entry hc hz iK,by rw[casT_eq,events_cas_miss_entry hc hz iK];rfl,sync_r ad⟩
theorem ae9{v:Int}(hc:w.cell? ad=some (.int k v)):Yields P f (Extern.Atomic.loadT (.int k) #[.pointer (some ad)]) w (.int k v) w #[FM ad]:=by
 refine⟨?_,?_,sync_r ad⟩
 ·change Sem.run P (do Extern.Atomic.read (.int k) (<-asAddr (.pointer (some ad)))) w=_;simp[Extern.Atomic.read,asAddr,hc]
 change Sem.events P (do Extern.Atomic.read (.int k) (<-asAddr (.pointer (some ad)))) w _=_;simp[Extern.Atomic.read,asAddr,hc,events_load,FM]
theorem abg{y:Int}{u:Value}(hc:w.cell? ad=some u)(hz:w.frozen? ad=false):Yields P f (Extern.Atomic.storeT #[.pointer (some ad),.int k y]) w (.tuple #[]) (w.setCell ad (.int k y)) #[Kt ad]:=by
 refine⟨?_,?_,?_⟩
 ·change Sem.run P (do
   store (<-asAddr (.pointer (some ad))) (.int k y) .atomic
   pure Extern.Atomic.none_) w=_
  simp[asAddr,hc,hz,run_store P w ad (.int k y) .atomic O,Extern.Atomic.none_,Result.andThen]
 ·change Sem.events P (do
   store (<-asAddr (.pointer (some ad))) (.int k y) .atomic
   pure Extern.Atomic.none_) w _=_
  simp[asAddr,hc,hz,events_store P w _ ad (.int k y) .atomic O,Kt]
 intro x hx;simp[Kt]at hx;subst hx;exact⟨rfl,fun g h=>by cases h⟩
theorem amo{n:Int}(hx:args[0]? =some (.pointer (some ad)))(hc:w.cell? ad=some (.int .u32 n))(hn0:n≠0)(hz:w.frozen? ad=false):Yields P f (Extern.Sync.semacquire args) w (.tuple #[]) (w.setCell ad (.int .u32 (n-1))) (FN ad):=
 ⟨by simp[Extern.Sync.semacquire,Extern.Sync.count,hx,hc,hn0,hz,Extern.Sync.none_,run_store P w ad (.int .u32 (n-1)) .atomic O,Result.andThen],
  by simp[Extern.Sync.semacquire,Extern.Sync.count,hx,hc,hn0,hz,FN,yw,FM,Kt,events_load,events_store P w _ ad (.int .u32 (n-1)) .atomic O,run_store P w ad (.int .u32 (n-1)) .atomic O,Result.evThen],semEvents_sync ad⟩
theorem ajt(hx:args[0]? =some (.pointer (some ad)))(hc:w.cell? ad=some (.int .u32 0)):(Extern.Sync.semacquire args).run P w= .halt .blocked w:=by simp[Extern.Sync.semacquire,Extern.Sync.count,hx,hc]
theorem ae_{n:Int}(hx:args[0]? =some (.pointer (some ad)))(hc:w.cell? ad=some (.int .u32 n))(hz:w.frozen? ad=false):Yields P f (Extern.Sync.semrelease args) w (.tuple #[]) (w.setCell ad (.int .u32 (IntKind.u32.wrap (n+1)))) (FN ad):=
 ⟨by simp[Extern.Sync.semrelease,Extern.Sync.count,hx,hc,hz,Extern.Sync.none_,Op.intArith,run_store P w ad (.int .u32 (IntKind.u32.wrap (n+1))) .atomic O,Result.andThen],
  by simp[Extern.Sync.semrelease,Extern.Sync.count,hx,hc,hz,FN,yw,FM,Kt,Op.intArith,events_load,events_store P w _ ad (.int .u32 (IntKind.u32.wrap (n+1))) .atomic O,run_store P w ad (.int .u32 (IntKind.u32.wrap (n+1))) .atomic O,Result.evThen],semEvents_sync ad⟩

theorem aju{b:Nat}{v0 v1:Value}{t:TypeId}(h:w.heap[b]? =some (.cells #[v0,v1] t (0,0))):w.cell? (jY b)=some v0/\w.frozen? (jY b)=false/\w.cell? (yY b)=some v1/\w.frozen? (yY b)=false:=by
 refine⟨?_,?_,?_,?_⟩ <;>simp[World.cell?,World.frozen?,jY,yY,h]
end
end Go.jc

namespace Go.jc
section
variable{x:Lx}{Q:qM x.π}{ρ:Env}{ds:List Deferred}{s:x.π.S}{ops:Array Oper}{i d:Nat}{rest:List Nat}{op:Op}{ty:TypeId}{pos:String}{bW:Array Edge}{g:Option (Nat×Bool)}{v:Value}{D:Option Tmp}
theorem lq(ho:dS ops.toList i=some ⟨some d,op,ty,pos,bW,g⟩)(hy:Pv x ρ ⟨some d,op,ty,pos,bW,g⟩ v)(H:LO x ops rest Q ((d,v)::ρ) ds s)(hw:gY ops ρ ⟨some d,op,ty,pos,bW,g⟩:=by first | exact wn | exact aI rfl rfl rfl)(hd:Nat.blt d x.n=true:=by rfl)(hn:fB op=true:=by rfl):LO x ops (i::rest) Q ρ ds s:=
 LO.q (o:=⟨some d,op,ty,pos,bW,g⟩) (aK ho) hw hd (kN hn) hy.cv H
theorem fD(H:Q .normal ρ ds s):LO x ops [] Q ρ ds s:=LO.nil H

section
variable{f:FuncId}{e:Array Value->Sem Value}{args:List Operand}{ts:Array TypeId}{vs:List Value}
theorem lx(a:x.π.A)(ho:dS ops.toList i=some ⟨some d,.call ⟨.value (.func f),args.toArray,ts⟩,ty,pos,bW,g⟩)[XF x.P f e](hv:jv ρ args=some vs)(iV:x.π.can a s)(Eo:∀y,¬x.π.blk a y)
  (ok:∀w y,x.π.at_ w y->x.π.rel a s y->∃v,Yields x.P f (e vs.toArray) w v (x.π.LG a y w) (x.π.jv a y)/\∀s',x.π.nxt a s y s'->LO x ops rest Q ((d,v)::ρ) ds s')
  (fr:x.π.free a->∃v jv,(∀ev∈jv,Event.mute ev=true)/\∀w,Yields x.P f (e vs.toArray) w v w jv)
  (hw:gY ops ρ ⟨some d,.call ⟨.value (.func f),args.toArray,ts⟩,ty,pos,bW,g⟩:=by first | exact wn | exact aI rfl rfl rfl) (hd:Nat.blt d x.n=true:=by rfl):LO x ops (i::rest) Q ρ ds s:=
 LO.ext (o:=⟨some d,.call ⟨.value (.func f),args.toArray,ts⟩,ty,pos,bW,g⟩) a (aK ho) O hv hw hd iV (fun w y _ _ h=>absurd h (Eo y)) (fun w y h1 h2 _=>ok w y h1 h2) fr
theorem lx0(ho:dS ops.toList i=some ⟨some d,.call ⟨.value (.func f),args.toArray,ts⟩,ty,pos,bW,g⟩)[XF x.P f e](hv:jv ρ args=some vs)(hy:∀w,Yields x.P f (e vs.toArray) w v w #[])(H:LO x ops rest Q ((d,v)::ρ) ds s)
  (hw:gY ops ρ ⟨some d,.call ⟨.value (.func f),args.toArray,ts⟩,ty,pos,bW,g⟩:=by first | exact wn | exact aI rfl rfl rfl) (hd:Nat.blt d x.n=true:=by rfl):LO x ops (i::rest) Q ρ ds s:=
 LO.q (o:=⟨some d,.call ⟨.value (.func f),args.toArray,ts⟩,ty,pos,bW,g⟩) (aK ho) hw hd (fun c h=>by cases h) (fun ee he=>by
  have key:∀w,(callFunc f vs.toArray).runT x.P w #[]=(.ok (.value v) w, #[⟨.mark (.extern f),false,true⟩]++ #[]):=fun w=>by
   obtain⟨fn,h1,h2,h3,h4,h5⟩:=(inferInstance:XF x.P f e).out;have VX:Extern.findNext fn=none:=by simpa using h4
   obtain⟨r1,r2,r3⟩:=hy w;rw[Sem.runT_eq,run_callFunc_extern h1 h2 h3 VX h5,r1,Conc.events_callFunc_extern h1 h2 h3 VX h5];simp only[List.push_toArray,List.nil_append];rw[r2]
   rfl
  exact⟨_,Conc.seen_entry _ _ _ (fun x h=>by simp at h),fun w=>by rw[zM he O hv];exact key w⟩) H
theorem lc(ho:dS ops.toList i=some ⟨some d,.call ⟨.value (.func f),args.toArray,ts⟩,ty,pos,bW,g⟩)[FB x.P f](hv:jv ρ args=some vs)(H:nJ x.P x.m x.π f vs.toArray s fun v s'=>LO x ops rest Q ((d,v)::ρ) ds s')
  (hw:gY ops ρ ⟨some d,.call ⟨.value (.func f),args.toArray,ts⟩,ty,pos,bW,g⟩:=by first | exact wn | exact aI rfl rfl rfl) (hd:Nat.blt d x.n=true:=by rfl):LO x ops (i::rest) Q ρ ds s:=
 LO.call (o:=⟨some d,.call ⟨.value (.func f),args.toArray,ts⟩,ty,pos,bW,g⟩) (aK ho) hw hd (fun c h=>by cases h) (fun ee he=>⟨#[],rfl,fun w=>by
  obtain⟨fn,h1,h2,h3⟩:=FB.out (inferInstance:FB x.P f);rw[zM he O hv];simp only[callFunc,program,bind_eq,au,Sem.bind,Sem.runT,h1,h2,h3,eU,if_false]⟩) H
end
end
variable{ad:Addr}{c y z:Operand}{d' id j:Nat}{dst src t:TypeId}{k:IntKind}{o:Oper}{v:Value}{x:Lx}{ρ:Env}
section
variable{x:Lx}{Q:qM x.π}{ρ:Env}{ds:List Deferred}{s:x.π.S}{ops:Array Oper}{i d:Nat}{rest:List Nat}{ty:TypeId}{pos:String}{bW:Array Edge}{g:Option (Nat×Bool)}
theorem lcv(a:x.π.A)(ho:dS ops.toList i=some ⟨some d,.convert src dst y,ty,pos,bW,g⟩)(hy:ev ρ y=some (.pointer (some ad)))[hs:TD x.P src (.pointer t)][IK:TD x.P dst .unsafePointer](oH:(x.P.info? t).map (fun i=>decide (i.size=0))=some false)
  (iV:x.π.can a s) (Eo:∀y,¬x.π.blk a y) (hnw:¬x.π.wak a) (Q_:¬x.π.free a) (ok:∀w y,x.π.at_ w y->x.π.rel a s y->(∃v,w.cell? ad=some v)/\x.π.LG a y w=w/\x.π.jv a y= #[]/\∀s',x.π.nxt a s y s'->LO x ops rest Q ((d,.pointer (some ad))::ρ) ds s')
  (hw:gY ops ρ ⟨some d,.convert src dst y,ty,pos,bW,g⟩:=by first | exact wn | exact aI rfl rfl rfl) (hd:Nat.blt d x.n=true:=by rfl):LO x ops (i::rest) Q ρ ds s:=by
 refine LO.act a (o:=⟨some d,.convert src dst y,ty,pos,bW,g⟩) (aK ho) hw hd (fun c h=>by cases h) iV (fun ee he w z q1 q2 q3=>absurd q3 (Eo z)) (fun ee he w z q1 q2 _=>?_) (fun h=>absurd h hnw) (fun h=>absurd h Q_);obtain⟨⟨v,hv⟩,e1,e2,e3⟩:=ok w z q1 q2;refine⟨.pointer (some ad), #[],?_,by rw[e2];rfl,e3⟩;rw[e1]
 have hx:execOp ee ⟨some d,.convert src dst y,ty,pos,bW,g⟩=(convert src dst (.pointer (some ad))).bind fun v=>.pure (Next.value v):=by
  simp only[execOp,he y _ hy];rfl
 rw[hx,Sem.runT_eq];have r1:=run_convert_to_unsafe hs.out IK.out oH hv;have r2:=Conc.events_convert_to_unsafe hs.out IK.out oH hv #[];show(Sem.run x.P ((convert src dst (.pointer (some ad))) >>=fun v=>pure (Next.value v)) w,Sem.events x.P ((convert src dst (.pointer (some ad))) >>=fun v=>pure (Next.value v)) w #[])=_;simp[r1,r2,Sem.events_bind,Result.andThen,Result.evThen]
end
theorem adD{P:Program}{fn:FuncId}(hq:(P.funcs[fn]?).any (·.norace)=true):seen P fn #[⟨.cell ad,false,false⟩]= #[]:=by
 rw[Conc.seen_def];simp[Conc.seenStep,hq]
section
variable{x:Lx}{Q:qM x.π}{ρ:Env}{ds:List Deferred}{s:x.π.S}{ops:Array Oper}{i d:Nat}{rest:List Nat}{ty:TypeId}{pos:String}{bW:Array Edge}{g:Option (Nat×Bool)}
theorem ll[j:SC x.P t](a:x.π.A)(ho:dS ops.toList i=some ⟨some d,.load t y,ty,pos,bW,g⟩)(hy:ev ρ y=some (.pointer (some ad)))(hq:(x.P.funcs[x.fn]?).any (·.norace)=true)
  (iV:x.π.can a s) (Eo:∀y,¬x.π.blk a y) (hnw:¬x.π.wak a) (Q_:¬x.π.free a) (ok:∀w y,x.π.at_ w y->x.π.rel a s y->∃v,w.cell? ad=some v/\x.π.LG a y w=w/\x.π.jv a y= #[]/\∀s',x.π.nxt a s y s'->LO x ops rest Q ((d,v)::ρ) ds s')
  (hw:gY ops ρ ⟨some d,.load t y,ty,pos,bW,g⟩:=by first | exact wn | exact aI rfl rfl rfl) (hd:Nat.blt d x.n=true:=by rfl):LO x ops (i::rest) Q ρ ds s:=by
 refine LO.act a (o:=⟨some d,.load t y,ty,pos,bW,g⟩) (aK ho) hw hd (fun c h=>by cases h) iV (fun ee he w z q1 q2 q3=>absurd q3 (Eo z)) (fun ee he w z q1 q2 _=>?_) (fun h=>absurd h hnw) (fun h=>absurd h Q_);obtain⟨v,hv,e1,e2,e3⟩:=ok w z q1 q2;refine⟨v, #[⟨.cell ad,false,false⟩],?_,by rw[e2];exact adD hq,e3⟩;rw[e1];obtain⟨dd,hg,n1,n2⟩:=j.out;simp only[execOp,he y _ hy,Instr.loadAt,Instr.sureAddr,loadVar,isAgg,underlying,program,load,bind_eq,au,bind_assoc,bind_pure,Sem.bind,Sem.runT,hg]
 cases dd <;>first | exact absurd rfl (n1 _) | exact absurd rfl (n2 _ _) | (simp only[Sem.bind,Sem.runT,hv,eU,if_false];rfl)
end
section
variable{P:Program}{f:FuncId}{w:World}{n:Int}{k:IntKind}
theorem P_{args:Array Value}:Yields P f ((fun _=>pure (.bool false):Array Value->Sem Value) args) w (.bool false) w #[]:=⟨by simp,by simp,by simp⟩
end
section
variable{x:Lx}{Q:qM x.π}{ρ:Env}{ds:List Deferred}{s:x.π.S}{ops:Array Oper}{i d:Nat}{rest:List Nat}{ty:TypeId}{pos:String}{bW:Array Edge}{g:Option (Nat×Bool)}{f:FuncId}{args:List Operand}{ts:Array TypeId}{vs:List Value}
end
section
variable{P:Program}{m:Bool}{γ:Grp}{fn:FuncId}{n:Nat}{Q:qM (gJ γ)}{ρ:Env}{ds:List Deferred}{s s':LS}{ops:Array Oper}{i d:Nat}{rest:List Nat}{ty:TypeId}{pos:String}{bW:Array Edge}{g:Option (Nat×Bool)}{f:FuncId}
theorem atI(ho:dS ops.toList i=some ⟨some d,.call ⟨.value (.func f), #[], #[]⟩,ty,pos,bW,g⟩)[XF P f (fun _=>do Go.mark .disable;pure Extern.Race.none_)](iV:oP .Kr s)(hs:∀x wE,Jh .Kr s x wE->wE=s')(H:LO ⟨P,m,gJ γ,fn,n⟩ ops rest Q ((d,.tuple #[])::ρ) ds s')
  (hw:gY ops ρ ⟨some d,.call ⟨.value (.func f), #[], #[]⟩,ty,pos,bW,g⟩:=by first | exact wn | exact aI rfl rfl rfl) (hd:Nat.blt d n=true:=by rfl):LO ⟨P,m,gJ γ,fn,n⟩ ops (i::rest) Q ρ ds s:=
 lx (x:=⟨P,m,gJ γ,fn,n⟩) (args:=[]) (ts:= #[]) (vs:=[]) (LA.Kr:LA) ho O iV (fun y h=>h) (fun w y _ _=>⟨.tuple #[],oD (args:= #[]) (m:=.disable) (by simp),fun wE hn=>by rw[hs y wE hn];exact H⟩)
  (fun _=>⟨.tuple #[], #[yw .disable],fun ev h=>by simp at h;subst h;rfl,fun w=>oD (args:= #[]) (m:=.disable) (by simp)⟩) hw hd
theorem atJ(ho:dS ops.toList i=some ⟨some d,.call ⟨.value (.func f), #[], #[]⟩,ty,pos,bW,g⟩)[XF P f (fun _=>do Go.mark .enable;pure Extern.Race.none_)](iV:oP .en s)(hs:∀x wE,Jh .en s x wE->wE=s')(H:LO ⟨P,m,gJ γ,fn,n⟩ ops rest Q ((d,.tuple #[])::ρ) ds s')
  (hw:gY ops ρ ⟨some d,.call ⟨.value (.func f), #[], #[]⟩,ty,pos,bW,g⟩:=by first | exact wn | exact aI rfl rfl rfl) (hd:Nat.blt d n=true:=by rfl):LO ⟨P,m,gJ γ,fn,n⟩ ops (i::rest) Q ρ ds s:=
 lx (x:=⟨P,m,gJ γ,fn,n⟩) (args:=[]) (ts:= #[]) (vs:=[]) (LA.en:LA) ho O iV (fun y h=>h) (fun w y _ _=>⟨.tuple #[],oD (args:= #[]) (m:=.enable) (by simp),fun wE hn=>by rw[hs y wE hn];exact H⟩)
  (fun _=>⟨.tuple #[], #[yw .enable],fun ev h=>by simp at h;subst h;rfl,fun w=>oD (args:= #[]) (m:=.enable) (by simp)⟩) hw hd
end
section
variable{x:Lx}{Q:qM x.π}{ρ:Env}{ds:List Deferred}{s:x.π.S}{ops:Array Oper}{i:Nat}{rest:List Nat}
theorem LO.defer{c:Call}{d:Deferred}(ho:ops[i]? =some o)(aY:o.op= .defer c)(hw:gY ops ρ o)(hd:o.dst=none)(hr:∀e,Kn1 ρ e->resolve e c o.type= .pure d)(H:LO x ops rest Q ρ (d::ds) s):LO x ops (i::rest) Q ρ ds s:=by
  intro b k cs E tmps h1 h2 h3 h4 h5 hc;have fA:(b.kind==CallKind.early)=false:=by simpa using h3
  refine .idle O (fun w=>aaD (x:=⟨x.P,sd x.m,x.fn,x.n,none,⟨fun _=>none,fun _=>False⟩⟩) ho aY (hw.wanted h4) h2 fA (hr _ fun _ _ hx=>h4.ev hx)) ?_;have hf:=fQ (b:=b) (t:=tmps) (ds:=d::ds) (k:=k) (cs:=cs) (rest:=rest) ho undef;rw[hf,hd];exact H b k cs E tmps h1 h2 h3 h4 h5 hc
end
theorem aod{t':TypeId}{k':IntKind}{a b:Int}(ho:o.op= .binOp .shl t y z t')(hy:ev ρ y=some (.int k a))(hz:ev ρ z=some (.int k' b))(hb:0<=b):Pv x ρ o (.int k (k.wrap (a*2 ^ (min b.toNat k.bits)))):=
  NK ho hy hz (by
                     have:¬b<0:=by omega
                     simp only[binOp,Op.shift,if_neg this];rfl)
theorem Pv.eq{u:Value}(h:Pv x ρ o v)(e:v=u):Pv x ρ o u:=e▸h
section
variable{π:qL}{Q:qM π}{K:Env->List Deferred->π.S->Prop}{ρ:Env}{ds:List Deferred}{s:π.S}
theorem dI(H:K ρ ds s):ah9 K Q .normal ρ ds s:=H
theorem amq(H:Q (.exit id) ρ ds s):ah9 K Q (.exit id) ρ ds s:=H
theorem V7(H:Q .ret ρ ds s):ah9 K Q .ret ρ ds s:=H
theorem aqd(H:Q .normal ρ ds s):acX id Q .normal ρ ds s:=H
theorem amr(H:Q .ret ρ ds s):acX id Q .ret ρ ds s:=H
theorem atK{Oe:Nat}(H:Q .normal ρ ds s)(h:Nat.beq Oe id=true:=by rfl):acX id Q (.exit Oe) ρ ds s:=by simp only[acX,h,cond_true];exact H
end
section
variable{x:Lx}{Q:qM x.π}{K:Env->List Deferred->x.π.S->Prop}{ρ:Env}{ds:List Deferred}{s:x.π.S}{ops:Array Oper}{i d:Nat}{rest:List Nat}{op:Op}{ty:TypeId}{pos:String}{bW:Array Edge}
theorem L.kG{y z:Code}(H:L x y Q ρ ds s)(h:ev ρ c=some (.bool true):=by rfl):L x (.cond c y z) Q ρ ds s:=L.cond h (fun _=>H) (fun e=>by cases e)
theorem L.iq{y z:Code}(H:L x z Q ρ ds s)(h:ev ρ c=some (.bool false):=by rfl):L x (.cond c y z) Q ρ ds s:=L.cond h (fun e=>by cases e) (fun _=>H)

theorem LO.known{u v:Bool}(hv:look ρ d'=some (.bool v))(hu:v=u)(H:LO x ops (i::rest) Q ((d',.bool u)::ρ) ds s):LO x ops (i::rest) Q ρ ds s:=by
 intro b k cs E tmps h1 h2 h3 h4 h5 hc;refine H b k cs E tmps h1 h2 h3 (fun t y hy=>?_) h5 hc;unfold look at hy
 cases e:Nat.beq t d' with
 | true=>
  rw[e]at hy;simp only[cond_true,dY]at hy;subst hy;rw[Nat.eq_of_beq_eq_true e,<-hu];exact h4 d' _ hv
 | false=>rw[e]at hy;exact h4 t y hy
theorem LO.ask{w:Bool}{p:Prop}[Decidable p]{D:Option Tmp}(ht:p->LO x ops (i::rest) Q ((d',.bool true)::ρ) ds s)(hf:¬p->LO x ops (i::rest) Q ((d',.bool false)::ρ) ds s)(ho:dS ops.toList i=some ⟨D,op,ty,pos,bW,some (j,w)⟩:=by rfl)(hj:(dS ops.toList j).bind (·.dst)=some d':=by rfl)(hv:look ρ d'=some (.bool (decide p)):=by rfl):LO x ops (i::rest) Q ρ ds s:=by
 by_cases hp:p
 ·exact LO.known hv (by simp[hp]) (ht hp)
 exact LO.known hv (by simp[hp]) (hf hp)
theorem Dx{dj:Nat}{w v:Bool}(H:LO x ops rest Q ((d,undef)::ρ) ds s)(ho:dS ops.toList i=some ⟨some d,op,ty,pos,bW,some (j,w)⟩:=by rfl)(hj:(dS ops.toList j).bind (·.dst)=some dj:=by rfl)(hv:look ρ dj=some (.bool v):=by rfl)(iK:(v==w)=false:=by rfl)(hd:Nat.blt d x.n=true:=by rfl):LO x ops (i::rest) Q ρ ds s:=
 LO.unwanted (o:=⟨some d,op,ty,pos,bW,some (j,w)⟩) (aK ho) O (by rw[IL]at hj;simpa using hj) hv iK hd H
end
section
variable{P:Program}{m:Bool}{B:Nat}{fn:FuncId}{n:Nat}{Q:qM (mQ B)}{ρ:Env}{ds:List Deferred}{ob:Obj}{dd:Nat}{c:Array Value}{ct:TypeId}{ops:Array Oper}{i d off:Nat}{rest:List Nat}{ty:TypeId}{pos:String}{bW:Array Edge}{g:Option (Nat×Bool)}{f:FuncId}{args:List Operand}{ts:Array TypeId}
theorem atM(ho:dS ops.toList i=some ⟨some d,.call ⟨.value (.func f), #[], #[]⟩,ty,pos,bW,g⟩)[XF P f (fun _=>do Go.mark .disable;pure Extern.Race.none_)](H:LO ⟨P,m,mQ B,fn,n⟩ ops rest Q ((d,.tuple #[])::ρ) ds (⟨ob,dd+1⟩:VS))
  (hw:gY ops ρ ⟨some d,.call ⟨.value (.func f), #[], #[]⟩,ty,pos,bW,g⟩:=by first | exact wn | exact aI rfl rfl rfl) (hd:Nat.blt d n=true:=by rfl):LO ⟨P,m,mQ B,fn,n⟩ ops (i::rest) Q ρ ds (⟨ob,dd⟩:VS):=
 lx (x:=⟨P,m,mQ B,fn,n⟩) (s:=(⟨ob,dd⟩:VS)) (args:=[]) (ts:= #[]) (vs:=[]) (VA.Kr:VA) ho O trivial (fun y h=>h) (fun w y _ _=>⟨.tuple #[],oD (args:= #[]) (m:=.disable) (by simp),fun wE hn=>by rw[show wE=(⟨ob,dd+1⟩:VS)from hn];exact H⟩)
  (fun _=>⟨.tuple #[], #[yw .disable],fun ev h=>by simp at h;subst h;rfl,fun w=>oD (args:= #[]) (m:=.disable) (by simp)⟩) hw hd
theorem atN(ho:dS ops.toList i=some ⟨some d,.call ⟨.value (.func f), #[], #[]⟩,ty,pos,bW,g⟩)[XF P f (fun _=>do Go.mark .enable;pure Extern.Race.none_)](H:LO ⟨P,m,mQ B,fn,n⟩ ops rest Q ((d,.tuple #[])::ρ) ds (⟨ob,dd⟩:VS))
  (hw:gY ops ρ ⟨some d,.call ⟨.value (.func f), #[], #[]⟩,ty,pos,bW,g⟩:=by first | exact wn | exact aI rfl rfl rfl) (hd:Nat.blt d n=true:=by rfl):LO ⟨P,m,mQ B,fn,n⟩ ops (i::rest) Q ρ ds (⟨ob,dd+1⟩:VS):=
 lx (x:=⟨P,m,mQ B,fn,n⟩) (s:=(⟨ob,dd+1⟩:VS)) (args:=[]) (ts:= #[]) (vs:=[]) (VA.en:VA) ho O (Nat.succ_pos dd) (fun y h=>h) (fun w y _ _=>⟨.tuple #[],oD (args:= #[]) (m:=.enable) (by simp),fun wE hn=>by rw[show wE=(⟨ob,dd⟩:VS)from hn];exact H⟩)
  (fun _=>⟨.tuple #[], #[yw .enable],fun ev h=>by simp at h;subst h;rfl,fun w=>oD (args:= #[]) (m:=.enable) (by simp)⟩) hw hd
theorem aw7(ho:dS ops.toList i=some ⟨some d,.call ⟨.value (.func f), #[y],ts⟩,ty,pos,bW,g⟩)[XF P f (Extern.Race.marked .acquire)](hy:ev ρ y=some (.pointer (some ad)))(H:LO ⟨P,m,mQ B,fn,n⟩ ops rest Q ((d,.tuple #[])::ρ) ds (⟨ob,dd⟩:VS))
  (hw:gY ops ρ ⟨some d,.call ⟨.value (.func f), #[y],ts⟩,ty,pos,bW,g⟩:=by first | exact wn | exact aI rfl rfl rfl) (hd:Nat.blt d n=true:=by rfl):LO ⟨P,m,mQ B,fn,n⟩ ops (i::rest) Q ρ ds (⟨ob,dd⟩:VS):=
 lx (x:=⟨P,m,mQ B,fn,n⟩) (s:=(⟨ob,dd⟩:VS)) (args:=[y]) (vs:=[.pointer (some ad)]) (VA.mk (.acquire ad):VA) ho (by simp[jv,hy]) (.inl ⟨_,O⟩) (fun y h=>h) (fun w y _ _=>⟨.tuple #[],vW (mk:=.acquire) (by simp) O,fun wE hn=>by rw[show wE=(⟨ob,dd⟩:VS)from hn];exact H⟩)
  (fun h=>by rcases h with h | h <;>cases h) hw hd
theorem aw8(ho:dS ops.toList i=some ⟨some d,.call ⟨.value (.func f), #[y],ts⟩,ty,pos,bW,g⟩)[XF P f (Extern.Race.marked .releaseMerge)](hy:ev ρ y=some (.pointer (some ad)))(H:LO ⟨P,m,mQ B,fn,n⟩ ops rest Q ((d,.tuple #[])::ρ) ds (⟨ob,dd⟩:VS))
  (hw:gY ops ρ ⟨some d,.call ⟨.value (.func f), #[y],ts⟩,ty,pos,bW,g⟩:=by first | exact wn | exact aI rfl rfl rfl) (hd:Nat.blt d n=true:=by rfl):LO ⟨P,m,mQ B,fn,n⟩ ops (i::rest) Q ρ ds (⟨ob,dd⟩:VS):=
 lx (x:=⟨P,m,mQ B,fn,n⟩) (s:=(⟨ob,dd⟩:VS)) (args:=[y]) (vs:=[.pointer (some ad)]) (VA.mk (.releaseMerge ad):VA) ho (by simp[jv,hy]) (.inr ⟨_,O⟩) (fun y h=>h) (fun w y _ _=>⟨.tuple #[],vW (mk:=.releaseMerge) (by simp) O,fun wE hn=>by rw[show wE=(⟨ob,dd⟩:VS)from hn];exact H⟩)
  (fun h=>by rcases h with h | h <;>cases h) hw hd
theorem uP{w:World}(hw:w.heap[B]? =some (.cells c ct (0,0)))(hc:c[off]? =some v):w.cell? ⟨B,off,none⟩=some v/\w.frozen? ⟨B,off,none⟩=false:=by
 constructor <;>simp[World.cell?,World.frozen?,hw,hc]
theorem pld{v:Int}(ho:dS ops.toList i=some ⟨some d,.call ⟨.value (.func f), #[y],ts⟩,ty,pos,bW,g⟩)[XF P f (Extern.Atomic.loadT (.int k))](hy:ev ρ y=some (.pointer (some ⟨B,off,none⟩)))(hc:c[off]? =some (.int k v))(H:LO ⟨P,m,mQ B,fn,n⟩ ops rest Q ((d,.int k v)::ρ) ds (⟨.cells c ct (0,0),dd⟩:VS))
  (hw:gY ops ρ ⟨some d,.call ⟨.value (.func f), #[y],ts⟩,ty,pos,bW,g⟩:=by first | exact wn | exact aI rfl rfl rfl) (hd:Nat.blt d n=true:=by rfl):LO ⟨P,m,mQ B,fn,n⟩ ops (i::rest) Q ρ ds (⟨.cells c ct (0,0),dd⟩:VS):=
 lx (
   x:=⟨P,m,mQ B,fn,n⟩) (s:=(⟨.cells c ct (0,0),dd⟩:VS)) (args:=[y]) (vs:=[.pointer (some ⟨B,off,none⟩)]) (VA.ld off:VA) ho (by simp[jv,hy]) trivial (fun y h=>h) (fun w y h1 h2=>by
   have h2:y= .cells c ct (0,0):=h2;have h1:w.heap[B]? =some y:=h1;rw[h2]at h1;exact⟨.int k v,ae9 (uP h1 hc).1,fun wE hn=>by rw[show wE=(⟨.cells c ct (0,0),dd⟩:VS)from hn];exact H⟩)
  (fun h=>by rcases h with h | h <;>cases h) hw hd
theorem aw9{v u:Int}{z':Operand}(ho:dS ops.toList i=some ⟨some d,.call ⟨.value (.func f), #[y,z,z'],ts⟩,ty,pos,bW,g⟩)[XF P f (Extern.Atomic.casT (.int k))](hy:ev ρ y=some (.pointer (some ⟨B,off,none⟩)))(hz:ev ρ z=some (.int k v))(hz':ev ρ z'=some (.int k u))(hc:c[off]? =some (.int k v))(H:LO ⟨P,m,mQ B,fn,n⟩ ops rest Q ((d,.bool true)::ρ) ds (⟨.cells (c.setIfInBounds off (.int k u)) ct (0,0),dd⟩:VS))
  (hw:gY ops ρ ⟨some d,.call ⟨.value (.func f), #[y,z,z'],ts⟩,ty,pos,bW,g⟩:=by first | exact wn | exact aI rfl rfl rfl) (hd:Nat.blt d n=true:=by rfl):LO ⟨P,m,mQ B,fn,n⟩ ops (i::rest) Q ρ ds (⟨.cells c ct (0,0),dd⟩:VS):=
 lx (
   x:=⟨P,m,mQ B,fn,n⟩) (s:=(⟨.cells c ct (0,0),dd⟩:VS)) (args:=[y,z,z']) (vs:=[.pointer (some ⟨B,off,none⟩),.int k v,.int k u]) (VA.rw off (.int k u):VA) ho (by simp[jv,hy,hz,hz']) trivial (fun y h=>h) (fun w y h1 h2=>by
   have h2:y= .cells c ct (0,0):=h2;have h1:w.heap[B]? =some y:=h1;rw[h2]at h1;exact⟨.bool true,ajs (uP h1 hc).1 (uP h1 hc).2,fun wE hn=>by rw[show wE=(⟨.cells (c.setIfInBounds off (.int k u)) ct (0,0),dd⟩:VS)from hn];exact H⟩)
  (fun h=>by rcases h with h | h <;>cases h) hw hd
theorem aw_{v e:Int}(ho:dS ops.toList i=some ⟨some d,.call ⟨.value (.func f), #[y,z],ts⟩,ty,pos,bW,g⟩)[XF P f (Extern.Atomic.update (Op.intArith .add) k true)](hy:ev ρ y=some (.pointer (some ⟨B,off,none⟩)))(hz:ev ρ z=some (.int k e))(hc:c[off]? =some (.int k v))(H:LO ⟨P,m,mQ B,fn,n⟩ ops rest Q ((d,.int k (k.wrap (v+e)))::ρ) ds (⟨.cells (c.setIfInBounds off (.int k (k.wrap (v+e)))) ct (0,0),dd⟩:VS))
  (hw:gY ops ρ ⟨some d,.call ⟨.value (.func f), #[y,z],ts⟩,ty,pos,bW,g⟩:=by first | exact wn | exact aI rfl rfl rfl) (hd:Nat.blt d n=true:=by rfl):LO ⟨P,m,mQ B,fn,n⟩ ops (i::rest) Q ρ ds (⟨.cells c ct (0,0),dd⟩:VS):=
 lx (
   x:=⟨P,m,mQ B,fn,n⟩) (s:=(⟨.cells c ct (0,0),dd⟩:VS)) (args:=[y,z]) (vs:=[.pointer (some ⟨B,off,none⟩),.int k e]) (VA.rw off (.int k (k.wrap (v+e))):VA) ho (by simp[jv,hy,hz]) trivial (fun y h=>h) (fun w y h1 h2=>by
   have h2:y= .cells c ct (0,0):=h2;have h1:w.heap[B]? =some y:=h1;rw[h2]at h1;exact⟨_,ajr (uP h1 hc).1 (uP h1 hc).2,fun wE hn=>by rw[show wE=(⟨.cells (c.setIfInBounds off (.int k (k.wrap (v+e)))) ct (0,0),dd⟩:VS)from hn];exact H⟩)
  (fun h=>by rcases h with h | h <;>cases h) hw hd
theorem pcv{xW:Value}(ho:dS ops.toList i=some ⟨some d,.convert src dst y,ty,pos,bW,g⟩)(hy:ev ρ y=some (.pointer (some ⟨B,off,none⟩)))[hs:TD P src (.pointer t)][IK:TD P dst .unsafePointer](oH:(P.info? t).map (fun i=>decide (i.size=0))=some false)(hc:c[off]? =some xW)
  (H:LO ⟨P,m,mQ B,fn,n⟩ ops rest Q ((d,.pointer (some ⟨B,off,none⟩))::ρ) ds (⟨.cells c ct (0,0),dd⟩:VS))
  (hw:gY ops ρ ⟨some d,.convert src dst y,ty,pos,bW,g⟩:=by first | exact wn | exact aI rfl rfl rfl) (hd:Nat.blt d n=true:=by rfl):LO ⟨P,m,mQ B,fn,n⟩ ops (i::rest) Q ρ ds (⟨.cells c ct (0,0),dd⟩:VS):=
 lcv (x:=⟨P,m,mQ B,fn,n⟩) (s:=(⟨.cells c ct (0,0),dd⟩:VS)) (VA.Ym:VA) ho hy oH trivial (fun y h=>h) (fun h=>h) (fun h=>by rcases h with h | h <;>cases h) (fun w y h1 h2=>by
  have h2:y= .cells c ct (0,0):=h2;have h1:w.heap[B]? =some y:=h1;rw[h2]at h1;exact⟨⟨_,(uP h1 hc).1⟩,O,O,fun wE hn=>by rw[show wE=(⟨.cells c ct (0,0),dd⟩:VS)from hn];exact H⟩) hw hd
theorem pll[SC P t](ho:dS ops.toList i=some ⟨some d,.load t y,ty,pos,bW,g⟩)(hy:ev ρ y=some (.pointer (some ⟨B,off,none⟩)))(hq:(P.funcs[fn]?).any (·.norace)=true)(hc:c[off]? =some v)
  (H:LO ⟨P,m,mQ B,fn,n⟩ ops rest Q ((d,v)::ρ) ds (⟨.cells c ct (0,0),dd⟩:VS))
  (hw:gY ops ρ ⟨some d,.load t y,ty,pos,bW,g⟩:=by first | exact wn | exact aI rfl rfl rfl) (hd:Nat.blt d n=true:=by rfl):LO ⟨P,m,mQ B,fn,n⟩ ops (i::rest) Q ρ ds (⟨.cells c ct (0,0),dd⟩:VS):=
 ll (x:=⟨P,m,mQ B,fn,n⟩) (s:=(⟨.cells c ct (0,0),dd⟩:VS)) (VA.Ym:VA) ho hy hq trivial (fun y h=>h) (fun h=>h) (fun h=>by rcases h with h | h <;>cases h) (fun w y h1 h2=>by
  have h2:y= .cells c ct (0,0):=h2;have h1:w.heap[B]? =some y:=h1;rw[h2]at h1;exact⟨v,(uP h1 hc).1,O,O,fun wE hn=>by rw[show wE=(⟨.cells c ct (0,0),dd⟩:VS)from hn];exact H⟩) hw hd
end
instance:TD aV OY .unsafePointer:=⟨aB⟩

instance:XF aV T_ (fun _=>do Go.mark .disable;pure Extern.Race.none_):=⟨Ua,func121,aB,aB,aB,aB⟩
instance:XF aV VP (fun _=>do Go.mark .enable;pure Extern.Race.none_):=⟨VQ,func122,aB,aB,aB,aB⟩
instance:XF aV Ub (Extern.Race.marked .acquire):=⟨Uc,func133,aB,aB,aB,aB⟩
instance:XF aV Js (Extern.Race.marked .releaseMerge):=⟨Jt,func120,aB,aB,aB,aB⟩
instance:XF aV aaM (Extern.Race.marked .read):=⟨aaN,func128,aB,aB,aB,aB⟩
instance:XF aV YR (Extern.Race.marked .write):=⟨YS,func136,aB,aB,aB,aB⟩
instance:XF aV tH (Extern.Atomic.casT (.int .i32)):=⟨tJ,func138,aB,aB,aB,aB⟩
instance:XF aV EF (Extern.Atomic.update (Op.intArith .add) .i32 true):=⟨EG,func140,aB,aB,aB,aB⟩
instance:XF aV rU (Extern.Atomic.casT (.int .u64)):=⟨rV,func175,aB,aB,aB,aB⟩
instance:XF aV Df (Extern.Atomic.update (Op.intArith .add) .u64 true):=⟨Dh,func172,aB,aB,aB,aB⟩
instance:XF aV BJ (Extern.Atomic.loadT (.int .u64)):=⟨BK,func173,aB,aB,aB,aB⟩
instance:XF aV Ae Extern.Atomic.storeT:=⟨Af,func174,aB,aB,aB,aB⟩
instance:XF aV kX Extern.Sync.semacquire:=⟨rP,func137,aB,aB,aB,aB⟩
instance:XF aV lG Extern.Sync.semrelease:=⟨Ad,func132,aB,aB,aB,aB⟩
instance:XF aV F7 (fun _=>pure (.bool false)):=⟨F8,func123,aB,aB,aB,aB⟩
instance:XF aV BL (Extern.Atomic.loadT (.int .u32)):=⟨BM,func185,aB,aB,aB,aB⟩
instance:XF aV Ai Extern.Atomic.storeT:=⟨Aj,func199,aB,aB,aB,aB⟩
theorem Zk:ED.norace=true:=by kernel_rfl
theorem pR(main:aN)(h:Hp)(n lo hi:Int):Pu aV main QB #[I n,I lo,I hi] h (.bool (decide (outs n lo hi))):=by
 refine bG.bH func159 [(0,I n),(1,I lo),(2,I hi)] ?_;refine gZ ?_;refine aA.ask (fun YW=>?_) (fun YW=>?_)
 ·refine jk ?_;refine lQ ?_
  first | exact congrArg Value.bool (decide_eq_true (Or.inl ‹_›)).symm | exact congrArg Value.bool (decide_eq_decide.2 ⟨.inr,fun h=>h.resolve_left ‹_›⟩)
 refine jk ?_;refine lQ ?_
 first | exact congrArg Value.bool (decide_eq_true (Or.inl ‹_›)).symm | exact congrArg Value.bool (decide_eq_decide.2 ⟨.inr,fun h=>h.resolve_left ‹_›⟩)

theorem abh{ps:List Pn}{k:Nat}{p:Pn}(h:uO ps=uO (p::ps.drop (k+1))):uO ps=if oN p=0 then uO (ps.drop (k+1))else oN p:=h
theorem agw(main:aN)(h:Hp)(ps:List Pn)(vp:Value)(hf:Sl h Pn.row vp ps):Pu aV main VT #[vp] h (I (Dw ps)):=by
 obtain⟨a,cap,rfl⟩:=hf.aU;refine bG.bH func158 [(0,.slice a ps.length cap)] ?_;refine iC ?_;refine W.aJ O (fun c7=>?_) (fun c7=>?_)
 ·refine lg ?_;refine lQ ?_;show I _=I _;congr 1;simp only[Dw];rw[if_pos aj]
 refine gZ ?_;refine W.loop (σ:=Nat) (fun k=>k<=ps.length/\uO ps=uO (ps.drop k)) (fun k=>[(10,I k),(9,I ps.length),(8,.slice a ps.length cap)]) (fun _=>[]) (fun k=>ps.length-k) 0 ⟨Nat.zero_le _,O⟩ iw .refl ?_;rintro k ⟨hk,hd⟩;refine kJ ?_;refine W.aJ O (fun ZI=>?_) (fun ZI=>?_)
 ·obtain⟨p,hp,yI⟩:=has (show k<ps.length by omega);rw[yI]at hd;have hd:=abh hd;obtain⟨b,off,c,E,fz,rfl,hb,hx,hy,hz⟩:=hf.at hp;have Aq:c.extract (off+k*3) (off+k*3+3)= #[I p.lo,I p.hi,I p.sh]:=hx;clear hx hz;refine kR ?_;refine aA.new (fun mW=>?_);refine jk ?_;refine cp (fun h' hE hL=>pR _ h' _ _ _) ?_;refine zT ?_;refine aA.ask (fun aqf=>?_) (fun aqf=>?_)
  ·refine lg ?_;refine W.kG ?_;refine iC ?_;refine lQ ?_;have hc:oN p=1:=by simp only[oN];rw[if_pos];first | exact .inl ‹_› | exact .inr ‹_›
   show I _=I _;congr 1;simp only[Dw];rw[if_neg aj,hd,hc];rfl
  refine d_ ?_;refine cp (fun h' hE hL=>pR _ h' _ _ _) ?_;refine gI ?_;refine W.aJ O (fun WW=>?_) (fun WW=>?_)
  ·refine iC ?_;refine lQ ?_;have hc:oN p=1:=by simp only[oN];rw[if_pos];first | exact .inl ‹_› | exact .inr ‹_›
   show I _=I _;congr 1;simp only[Dw];rw[if_neg aj,hd,hc];rfl
  refine FT ?_;refine W.aJ O (fun c23=>?_) (fun c23=>?_)
  ·refine iC ?_;refine lQ ?_;have hc:oN p=5:=by simp only[oN];rw[if_neg (by rintro(h | h) <;>contradiction),if_pos (by assumption)]
   show I _=I _;congr 1;simp only[Dw];rw[if_neg aj,hd,hc];rfl
  refine lF ?_;refine cp (fun h' hE hL=>pR _ h' _ _ _) ?_;refine d_ ?_;refine W.aJ O (fun c29=>?_) (fun c29=>?_)
  ·refine iC ?_;refine lQ ?_;have hc:oN p=1:=by simp only[oN];rw[if_neg (by rintro(h | h) <;>contradiction),if_neg (by assumption),if_pos (by assumption)]
   show I _=I _;congr 1;simp only[Dw];rw[if_neg aj,hd,hc];rfl
  refine kR ?_;have hc:oN p=0:=by simp only[oN];rw[if_neg (by rintro(h | h) <;>contradiction),if_neg (by assumption),if_neg (by assumption)]
  rw[hc,if_pos O]at hd;exact⟨O,k+1,⟨aj,hd⟩,aj,iw,qE⟩
 have:k=ps.length:=by omega
 subst this;have hz:uO ps=0:=by rw[hd];simp[uO]
 refine gZ ?_;refine lQ ?_;show I _=I _;congr 1;simp only[Dw];rw[if_neg aj,hz]

theorem ajv(main:aN)(h:Hp)(ps:List Pn)(vp:Value)(q:Int)(hf:Sl h Pn.row vp ps)(h4:ps.length<=4):Pu aV main Jy #[.agg #[vp],I q] h (U8 (aji ps q)):=by
 obtain⟨a,cap,rfl⟩:=hf.aU;refine bG.bH func194 [(0,.agg #[.slice a ps.length cap]),(1,I q)] ?_;refine d_ ?_;refine aA.box (fun oJ=>?_);refine Qu ?_;refine W.loop (σ:=Nat) (fun k=>k<=ps.length) (fun k=>[(11,I k),(10,I ps.length),(9,.slice a ps.length cap),(1,I q),(5,U8 (zL ((ps.take k).map (·.vC q))))]) (fun _=>[]) (fun k=>ps.length-k) 0 (Nat.zero_le _) iw (.skip O .refl) ?_;rintro k hk;refine kJ ?_;refine W.aJ O (fun OZ=>?_) (fun OZ=>?_)
 ·have zI:k<ps.length:=by omega
  obtain⟨p,hp,yI⟩:=has zI;obtain⟨b,off,c,E,fz,rfl,hb,hx,hy,hz⟩:=hf.at hp;have Aq:c.extract (off+k*3) (off+k*3+3)= #[I p.lo,I p.hi,I p.sh]:=hx;clear hx hz;have fK:zL ((ps.take k).map (·.vC q))<2 ^ k:=by have:=Zg (l:=(ps.take k).map (·.vC q));simpa[Nat.min_eq_left hk]using this
  have Gt:(ps.take (k+1)).map (·.vC q)=(ps.take k).map (·.vC q)++[p.vC q]:=by rw[List.take_add_one,hp];simp
  have hl:((ps.take k).map (·.vC q)).length=k:=by simp[Nat.min_eq_left hk]
  refine FT ?_;refine aA.new (fun yc=>?_);refine gZ ?_;refine aA.ask (fun ams=>?_) (fun ams=>?_)
  ·refine lg ?_;refine W.aJ O (fun JW=>?_) (fun JW=>?_)
   ·refine gI ?_;refine b_ (JK O O O aj) O ?_;refine Gh (ah0 O O O) (congrArg (Value.int .u8) (amk (k:=k) aj fK)) O wn O O ?_;refine zW rfl rfl rfl<|aA.nil<|iE<|fH<|W.region rfl ?_;refine gI ?_
    have e:zL ((ps.take (k+1)).map (·.vC q))=zL ((ps.take k).map (·.vC q))+2 ^ k:=by
     rw[Gt,NH,hl,if_pos];simp only[Pn.vC,Bool.and_eq_true,decide_eq_true_eq];exact⟨ams,JW⟩
    exact⟨O,k+1,zI,aj,⟨O,O,O,O,lk O (by rw[e]),trivial⟩,qE⟩
   refine jk ?_
   have e:zL ((ps.take (k+1)).map (·.vC q))=zL ((ps.take k).map (·.vC q)):=by
    rw[Gt,NH,hl,if_neg,Nat.add_zero];simp only[Pn.vC,Bool.and_eq_true,decide_eq_true_eq]
    first | exact fun h=>JW h.2 | exact fun h=>ams h.1
   exact⟨O,k+1,zI,aj,⟨O,O,O,O,lk O (by rw[e]),trivial⟩,qE⟩
  refine lg ?_;refine W.iq ?_;refine jk ?_
  have e:zL ((ps.take (k+1)).map (·.vC q))=zL ((ps.take k).map (·.vC q)):=by
   rw[Gt,NH,hl,if_neg,Nat.add_zero];simp only[Pn.vC,Bool.and_eq_true,decide_eq_true_eq]
   first | exact fun h=>JW h.2 | exact fun h=>ams h.1
  exact⟨O,k+1,zI,aj,⟨O,O,O,O,lk O (by rw[e]),trivial⟩,qE⟩
 have zI:k=ps.length:=by omega
 subst zI;refine iC ?_;refine lQ ?_;rw[List.take_length];rfl
end Go.jc
