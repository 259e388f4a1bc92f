/- Sets of pans; those that are open; what comes out; the beginning of each question. Conditions: none; over the given program. (And 18 texts more.) -/
import Derived.Test.YtjohlemgkcpoeaaGreatDoorR11
import Derived.Test.YtjohlemgkcpoeaaGreatDoorR10
import Derived.Test.YtjohlemgkcpoeaaGreatDoorR09
import Derived.Test.YtjohlemgkcpoeaaGreatDoorR07
import Derived.Test.YtjohlemgkcpoeaaGreatDoorR06
import Derived.Test.YtjohlemgkcpoeaaGreatDoorR08
set_option linter.unusedVariables false
set_option linter.unusedSimpArgs false
set_option linter.unusedSectionVars false
set_option maxRecDepth 100000
set_option maxHeartbeats 4000000

open Go.Proofs.Tryz
namespace Go.jc
theorem aqh(main:aN)(h:Hp)(m k:Nat)(hm:m<16)(hk:k<4):Pu aV main QC #[U8 m,I k] h (.bool (m.testBit k)):=by
 refine bG.bH func203 [(0,U8 m),(1,I k)] ?_;refine kR ?_;refine b_ (AB O O O aj) O ?_;refine kJ ?_;refine lQ ?_;exact congrArg Value.bool (aml hm hk)

theorem amu(main:aN)(h:Hp)(m:Nat)(hm:m<16):bG aV main OX #[U8 m] h [] (fun v A=>Os aX bY v (zs (ami m)) A):=by
 refine bG.bH func195 [(0,U8 m)] ?_;refine Qs ?_;refine W.uq (fun(k:Nat) (v:Value) (S:ah)=>k<=4/\Os aX bY v (zs ((List.range k).filter fun n=>m.testBit n)) S) (fun k v S=>[(5,I k),(3,v),(0,U8 m)]) (fun k v S=>S) (fun k _ _=>4-k) 0 (.slice none 0 0) [] ⟨Nat.zero_le _,.nil .nil⟩ iw .refl ?_;rintro k v S ⟨hk,hS⟩;refine kJ ?_;refine W.aJ O (fun c6=>?_) (fun c6=>?_)
 ·have QH:k<4:=by omega
  have hlen:(zs ((List.range k).filter fun n=>m.testBit n)).length<=4:=by rw[rZ];exact Nat.le_trans (List.length_filter_le ..) (by simp;omega)
  refine CW ?_;refine cp (fun h' hE hL=>aqh _ h' m k hm QH) ?_;refine qj ?_;refine W.cond O (fun Xe=>?_) (fun Xe=>?_)
  ·refine gI ?_;refine aA.zZ (cs:= #[I k]) (fun yg=>?_) O;refine oe O wn O O (bV (row:=bY) (l':=[(k:Int)]) O O O hS (.tail .all) (fun h2 _ hl=>Sl.mk (hl yg _ (.head _)) O (Part.all [I k])) (by simp;omega) dF O (fun v' S' xM=>?_));refine zW rfl rfl rfl<|aA.nil<|iE<|fH<|W.region rfl ?_;refine gI ?_;exact⟨O,k+1,v',S',⟨aj,by rw[List.range_succ,List.filter_append,Zh];simpa[zs,Xe]using xM⟩,aj,iw,.skip O .refl⟩
  refine jk ?_;exact⟨O,k+1,v,S,⟨aj,by rw[List.range_succ,List.filter_append,Zh];simpa[zs,Xe]using hS⟩,aj,iw,.refl⟩
 refine iC ?_;obtain rfl:k=4:=by omega
 exact iQ (vs:=[v]) hS

abbrev ajw(vp:Value)(c:Nat):Value:=.agg #[vp,U8 c]
theorem amv(main:aN)(h:Hp)(ps:List Pn)(vp:Value)(c q:Nat)(hf:Sl h Pn.row vp ps)(h4:ps.length<=4)(hc:c<16):bG aV main H8 #[ajw vp c,I q] h [] (fun v A=>∃S,Os aX bY v (zs (rC ps c q)) S/\Sb S A):=by
 obtain⟨a,cap,rfl⟩:=hf.aU;refine bG.bH func162 [(0,ajw (.slice a ps.length cap) c),(1,I q)] ?_;have hb:=ajm (a:=aji ps q) (c:=c) (agt (by simpa using h4)) hc;refine d_ ?_;refine aA.box (cs:= #[.slice a ps.length cap,U8 c]) (fun oJ=>?_);refine gI ?_;refine W.jS (n:=9) O ?_;refine ay 0 ?_;refine ay 1 ?_;refine ay 2 ?_;refine ay 4 ?_;refine ay 5 ?_;refine acp (i:=3) (fun h' hE hL=>ajv _ h' ps _ _ (hf.ext hE) h4) ?_;refine aqe (i:=6) (yV O O O) (congrArg (Value.int .u8) hb.1) O an O O ?_;refine ae (i:=7) O an O O (oL (args:=[_]) O O (fun h' hE hL=>amu _ h' _ hb.2.1) (fun v A' hv=>?_));refine⟨.inr (aC.app aC.refl),?_⟩;refine ay 8 ?_;refine az ?_;refine d_ ?_;refine iQ (vs:=[v]) ⟨A',?_,.right .refl (.cons O .nil)⟩;have e:ami (adC (aji ps q) c)=rC ps c q:=by rw[hb.2.2];simp only[ajj];rfl
 rw[<-e];exact hv

def UE(ps:List Pn)(ql:List Int):Int:=if Dw ps≠0 then Dw ps else if ql.any (fun q=>decide (outs q 0 12))then 1 else 0
abbrev aoe:Value:=ajw (.slice none 0 0) 0
theorem ajx(main:aN)(h:Hp)(ps:List Pn)(vp:Value)(ql:List Int)(vl:Value)(hf:Sl h Pn.row vp ps)(hl:Sl h bY vl ql)(hn:ql.length<=1000):Pu aV main VO #[vp,vl] h (.tuple #[if UE ps ql=0 then ajw vp 0 else aoe,I (UE ps ql)]):=by
 obtain⟨a,cap,rfl⟩:=hf.aU;obtain⟨a2,JA,rfl⟩:=hl.aU;refine bG.bH func107 [(0,.slice a ps.length cap),(1,.slice a2 ql.length JA)] ?_;refine d_ ?_;refine aA.new (fun mW=>?_);refine lg ?_;refine cp (fun h' hE hL=>agw _ h' _ _ (hf.ext hE)) ?_;refine jk ?_;refine W.aJ O (fun OZ=>?_) (fun OZ=>?_)
 ·refine FT ?_;refine AY (hv:=qU (adf nM)) ⟨?_,.cons O .nil⟩;have e:UE ps ql=Dw ps:=by rw[UE,if_pos OZ]
  rw[e,if_neg OZ];rfl
 refine gZ ?_;refine W.loop (σ:=Nat) (fun k=>k<=ql.length/\ql.any (fun q=>decide (outs q 0 12))=(ql.drop k).any (fun q=>decide (outs q 0 12))) (fun k=>[(17,I k),(16,I ql.length),(15,.slice a2 ql.length JA),(0,.slice a ps.length cap),(4,.pointer (some ⟨mW,0,none⟩))]) (fun _=>[(mW,.cells #[.slice none 0 0,U8 0] QF (0,0))]) (fun k=>ql.length-k) 0 ⟨Nat.zero_le _,O⟩ iw .refl ?_;rintro k ⟨hk,hd⟩;have h0:Dw ps=0:=by simpa using OZ
 refine kJ ?_;refine W.aJ O (fun c18=>?_) (fun c18=>?_)
 ·obtain⟨q,hp,yI⟩:=has (show k<ql.length by omega);rw[yI]at hd;obtain⟨b,off,c,E,fz,rfl,hb,hx,hy,hz⟩:=hl.at hp;have Aq:c[off+k*1]? =some (I q):=hz 0 dF;clear hx hz;refine CW ?_;refine cp (fun h' hE hL=>pR _ h' _ _ _) ?_;refine qj ?_;refine W.aJ O (fun c22=>?_) (fun c22=>?_)
  ·refine oz ?_;refine AY (hv:=qU (adf nM)) ⟨?_,.cons O .nil⟩;have e:UE ps ql=1:=by rw[UE,if_neg (by simpa using h0),hd];simp[c22]
   rw[e];rfl
  refine jk ?_;exact⟨O,k+1,⟨aj,by rw[hd];simp[c22]⟩,aj,iw,qE⟩
 refine Qs ?_;refine AY (hv:=qU (adf nM)) ⟨?_,.cons O .nil⟩
 have e:UE ps ql=0:=by
  obtain rfl:k=ql.length:=by omega
  rw[UE,if_neg (by simpa using h0),hd];simp
 rw[e];rfl
section
variable{K:Env->List Deferred->ah->Prop}{Q:fO}{ρ:Env}{ds:List Deferred}{F:ah}{l:Nat}
end
section
variable{x:Cx}{ρ:Env}{S:ah->Prop}{o:Oper}
end
set_option linter.unusedVariables false
set_option linter.unusedVariables false
def Dy(l:Lt):Bool:=decide (outs l.qu 0 12)|| decide (outs l.po 1 9)
def NM(ls:List Lt):Int:=if 4<ls.length then 6 else if ls.any Dy then 1 else 0
def UF(n:Nat)(rs:List Int):Int:=if rs.length<n then 7 else if n<rs.length then 6 else if rs.any (fun r=>decide (outs r 0 20))then 1 else 0
def jP(ps:List Pn)(ls:List Lt)(rs:List Int):Int:=if Dw ps≠0 then Dw ps else if NM ls≠0 then NM ls else UF ps.length rs
structure Io(ls:List Lt):Prop where
 len:ls.length<=4
 lot:∀l∈ls,0<=l.qu/\l.qu<=12/\1<=l.po/\l.po<=9
theorem Io.xE{ls:List Lt}(h:NM ls=0):Io ls:=by
 unfold NM at h;split at h
 ·cases h
 split at h
 ·cases h
 rename_i h1 h2;refine⟨aj,fun l hl=>?_⟩
 have:Dy l=false:=by
  rw[Bool.not_eq_true,List.any_eq_false]at h2;simpa using h2 l hl
 have h3:¬outs l.qu 0 12/\¬outs l.po 1 9:=by simpa[Dy]using this
 unfold outs at h3;omega
structure Ip(n:Nat)(rs:List Int):Prop where
 len:rs.length=n
 room:∀r∈rs,0<=r/\r<=40
variable{A A₀ B F R:ah}{E ty:TypeId}{E' b wO cap i listed m p s t t':Nat}{P:Program}{kH:ah->ah}{X:Type}{Val:X->Value->ah->Prop}{a:Option Addr}{bW:Array Edge}{bd us:Code}{ds:List Deferred}{f:X->Int}{fv v z:Value}{h h':Hp}{k:IntKind}{lo y:Operand}{pos:String}{r:Int×List X}{rs:List Int}{x:Nat×Obj}{xs:List X}{zc:Array Value}{ρ:Env}
theorem Ip.xE{n:Nat}(h:UF n rs=0):Ip n rs:=by
 unfold UF at h;split at h
 ·cases h
 split at h
 ·cases h
 split at h
 ·cases h
 rename_i h1 h2 h3;refine⟨aj,fun r hr=>?_⟩;rw[Bool.not_eq_true,List.any_eq_false]at h3;have h4:¬outs r 0 20:=by simpa using h3 r hr
 unfold outs at h4;omega

def fits(l:Lt)(rs:List Int)(p:Nat):Bool:= !decide (rs.getD p 0<l.po)
def less(l:Lt)(rs:List Int)(p:Nat):List Int:=rs.set p (rs.getD p 0-l.po)
def tN(ps:List Pn):List Lt->List Int->List Int->List (List Int)
 | [],_,pre=>[pre]
 | l::ls,rs,pre=>tN ps ls rs (pre++[-1])++(rC ps 0 l.qu.toNat).flatMap fun p=>if fits l rs p then tN ps ls (less l rs p) (pre++[(p:Int)])else[]
def I9:List Lt->List Int->Int
 | l::ls,a::s=>(if 0<=a then l.po else 0)+I9 ls s
 | _,_=>0
theorem abj{l:Lt}:(less l rs p).length=rs.length:=by simp[less]
theorem amw{l:Lt}(h:∀r∈rs,0<=r/\r<=40)(hl:1<=l.po/\l.po<=9)(hp:p<rs.length)(hf:fits l rs p=true):∀r∈less l rs p,0<=r/\r<=40:=by
 intro r hr;simp only[fits,Bool.not_eq_true',decide_eq_false_iff_not]at hf;rcases List.mem_or_eq_of_mem_set hr with h1 | h1
 ·exact h r h1
 have h2:rs.getD p 0∈rs:=by
  rw[List.getD_eq_getElem?_getD,jh hp];exact List.getElem_mem hp
 have:=h _ h2;omega
theorem UG{ps:List Pn}:∀{ls:List Lt} {rs pre s:List Int},s∈tN ps ls rs pre->s.length=pre.length+ls.length/\s.take pre.length=pre/\∀a∈s.drop pre.length,-1<=a/\a<4
 | [],rs,pre,s,h=>by
  have:s=pre:=by simpa[tN]using h
  subst this;simp
 | l::ls,rs,pre,s,h=>by
  have key:∀(a:Int) (rs':List Int),-1<=a->a<4->s∈tN ps ls rs' (pre++[a])->s.length=pre.length+(l::ls).length/\s.take pre.length=pre/\∀a∈s.drop pre.length,-1<=a/\a<4:=by
   intro a rs' h0 h1 hs;obtain⟨q1,q2,q3⟩:=UG hs;rw[jA,List.length_singleton]at q1 q2 q3
   have e:s=(pre++[a])++s.drop (pre.length+1):=by
    conv=>lhs;rw[<-List.take_append_drop (pre.length+1) s,q2]
   refine⟨by simp only[gK];omega,?_,?_⟩
   ·rw[e,eF,List.take_left]
   rw[e,eF,List.drop_left];intro b hb;rcases dh.1 hb with hb | hb
   ·rw[dP.1 hb];exact⟨h0,h1⟩
   exact q3 b hb
  simp only[tN,dh,List.mem_flatMap]at h;rcases h with h | ⟨p,hp,h⟩
  ·exact key _ _ aj aj h
  split at h
  ·have:=(Uy.1 hp).1;exact key _ _ aj aj h
  cases h
theorem Rk{ps:List Pn}:∀{ls:List Lt} {rs pre:List Int},tN ps ls rs pre≠[]
 | [],_,_=>by simp[tN]
 | l::ls,rs,pre=>by
  simp only[tN];intro h;exact Rk (List.append_eq_nil_iff.1 h).1
theorem vY{ps:List Pn}:∀{ls:List Lt} {rs pre:List Int},(tN ps ls rs pre).Nodup
 | [],_,_=>by simp[tN]
 | l::ls,rs,pre=>by
  have nN:∀{a:Int} {rs' s:List Int},s∈tN ps ls rs' (pre++[a])->s[pre.length]? =some a:=by
   intro a rs' s hs;obtain⟨q1,q2,_⟩:=UG hs;rw[jA,List.length_singleton]at q2;have:(s.take (pre.length+1))[pre.length]? =some a:=by rw[q2];simp
   rwa[List.getElem?_take_of_lt aj]at this
  rw[tN,List.nodup_append];refine⟨vY,?_,?_⟩
  ·have hpw:(rC ps 0 l.qu.toNat).Pairwise (· < ·):=List.pairwise_lt_range.filter _
   have gen:∀os:List Nat,os.Pairwise (· < ·)->(os.flatMap fun p=>if fits l rs p then tN ps ls (less l rs p) (pre++[(p:Int)])else[]).Nodup:=by
    intro os
    induction os with
    | nil=>simp
    | cons p os ih=>
     intro hp;rw[List.pairwise_cons]at hp;rw[List.flatMap_cons,List.nodup_append];refine⟨by split;exact vY;simp,ih hp.2,fun s hs t ht e=>?_⟩;subst e;split at hs
     ·obtain⟨p',hp',ht⟩:=List.mem_flatMap.1 ht;split at ht
      ·have h1:=nN hs;have h2:=nN ht;rw[h1]at h2;have h3:=hp.1 p' hp';injection h2 with h2
       omega
      cases ht
     cases hs
   exact gen _ hpw
  intro s hs t ht e;subst e;obtain⟨p,hp,ht⟩:=List.mem_flatMap.1 ht;split at ht
  ·have h1:=nN hs;have h2:=nN ht;rw[h1]at h2;injection h2 with h2
   omega
  cases ht
theorem aqi{ls:List Lt}(h:∀l∈ls,0<=l.qu/\l.qu<=12/\1<=l.po/\l.po<=9):∀{s:List Int},0<=I9 ls s/\I9 ls s<=9*ls.length:=by
 induction ls with
 | nil=>intro s;simp[I9]
 | cons l ls ih=>
  intro s
  cases s with
  | nil=>simp only[I9,gK];omega
  | cons a s=>
   have:=ih (fun l hl=>h l (dH _ hl)) (s:=s);have:=h l (bT ..);simp only[I9,gK];split <;>omega

def oQ{X:Type}[DecidableEq X](s:Int×List X)(x:X)(n:Int):Int×List X:=
 if s.2≠[]/\n<s.1 then s else
 let l:=if s.1<n then[]else s.2
 (n,if x∈l then l else l++[x])
def Dz{X:Type}[DecidableEq X](f:X->Int)(xs:List X):Int×List X:=xs.foldl (fun s x=>oQ s x (f x)) (0,[])
theorem UH[DecidableEq X]{k:Nat}{x:X}(h:xs[k]? =some x):Dz f (xs.take (k+1))=oQ (Dz f (xs.take k)) x (f x):=by
 rw[Dz,List.take_add_one,h,List.foldl_append];rfl
structure su{X:Type}(f:X->Int)(xs:List X)(r:Int×List X):Prop where
 le:∀x∈xs,f x<=r.1
 eq:r.2=xs.filter fun x=>decide (f x=r.1)
 ne:xs≠[]->r.2≠[]
theorem su.add[DecidableEq X]{x:X}(H:su f xs r)(hx:x∉xs):su f (xs++[x]) (oQ r x (f x)):=by
  obtain⟨h1,h2,h3⟩:=H;obtain⟨m,l⟩:=r;simp only at h1 h2 h3;have hxl:x∉l:=by rw[h2];exact fun h=>hx (List.mem_filter.1 h).1
  simp only[oQ];by_cases hc:l≠[]/\f x<m
  ·rw[if_pos hc];refine⟨fun y hy=>?_,?_,fun _=>hc.1⟩
   ·rcases dh.1 hy with hy | hy
    ·exact h1 y hy
    rw[dP.1 hy];exact Int.le_of_lt hc.2
   rw[List.filter_append,<-h2];have:f x≠m:=by omega
   simp[this]
  rw[if_neg hc];by_cases hm:m<f x
  ·simp only[if_pos hm,List.not_mem_nil,if_false,List.nil_append];refine⟨fun y hy=>?_,?_,fun _=>by simp⟩
   ·rcases dh.1 hy with hy | hy
    ·have:=h1 y hy;show f y<=f x;omega
    rw[dP.1 hy];exact Int.le_refl _
   rw[List.filter_append]
   have:xs.filter (fun y=>decide (f y=f x))=[]:=by
    rw[List.filter_eq_nil_iff];intro y hy;have:=h1 y hy;simp;omega
   simp[this]
  simp only[if_neg hm,if_neg hxl]
  have hxs:xs=[]\/f x=m:=by
   by_cases hxs:xs=[]
   ·exact .inl hxs
   have:=h3 hxs;exact .inr (by by_cases h:f x<m;exact absurd ⟨this,h⟩ hc;omega)
  rcases hxs with rfl | hfm
  ·have hl:l=[]:=by rw[h2];rfl
   subst hl
   have h9:∀y∈[]++[x],f y<=f x:=fun y hy=>by
    have hy':y=x:=dP.1 hy;rw[hy'];exact Int.le_refl _
   exact⟨h9,by simp,fun _=>by simp⟩
  rw[hfm];refine⟨fun y hy=>?_,?_,fun _=>by simp⟩
  ·rcases dh.1 hy with hy | hy
   ·exact h1 y hy
   rw[dP.1 hy,hfm];exact Int.le_refl _
  rw[List.filter_append,<-h2];simp[hfm]
theorem Xu{X:Type}[DecidableEq X]{f:X->Int}:∀{ys xs:List X} {r:Int×List X},su f xs r->(xs++ys).Nodup->su f (xs++ys) (ys.foldl (fun s x=>oQ s x (f x)) r)
 | [],xs,r,h,_=>by simpa using h
 | y::ys,xs,r,h,hn=>by
  have hy:y∉xs:=fun hy=>(List.nodup_append.1 hn).2.2 y hy y (bT ..) O;have:=Xu (ys:=ys) (h.add hy) (by simpa using hn);simpa using this
theorem NP[DecidableEq X](h:xs.Nodup):su f xs (Dz f xs):=
 Xu (xs:=[]) ⟨fun x h=>(by cases h),rfl,fun h=>absurd rfl h⟩ h
theorem su.one{r':Int×List X}(h:su f xs r)(h':su f xs r')(hx:xs≠[]):r=r':=by
 have key:∀{r r':Int×List X},su f xs r->su f xs r'->r.1<=r'.1:=by
  intro r r' h h';obtain⟨x,hm⟩:=List.exists_mem_of_ne_nil _ (h.ne hx);rw[h.eq]at hm;obtain⟨q1,q2⟩:=List.mem_filter.1 hm;have:=h'.le x q1;simp only[decide_eq_true_eq]at q2;omega
 have e:r.1=r'.1:=Int.le_antisymm (key h h') (key h' h);exact Prod.ext e (by rw[h.eq,h'.eq,e])

def Gi(ps:List Pn)(ls:List Lt)(rs:List Int):List (List Int):=tN ps ls rs []
def vZ(ps:List Pn)(ls:List Lt)(rs:List Int):Int×List (List Int):=Dz (I9 ls) (Gi ps ls rs)
section
variable{α:Type}{row:α->List Value}{w:Nat}[rw':Rw row w]
def Oq(E:TypeId)(row:α->List Value)[Rw row w](v:Value)(l:List α)(A:ah):Prop:=
 (l=[]/\v= .slice none 0 0/\eH A)\/∃β c o cap J,v= .slice (some ⟨β,o,none⟩) l.length cap/\A=(β,.cells c E (0,0))::J/\o+cap*w<=c.size/\l.length<=cap/\Part c o (flat row l)/\eH J
theorem Oq.shut{l:List α}(H:Oq E row v l A):eH A:=by
 rcases H with⟨_,_,h⟩ | ⟨β,c,o,cap,J,_,rfl,_,_,_,h⟩
 ·exact h
 exact .cons O h
theorem Oq.aU{l:List α}(H:Oq E row v l A):∃a cap,v= .slice a l.length cap:=by
 rcases H with⟨rfl,rfl,_⟩ | ⟨β,c,o,cap,J,rfl,rfl,h1,h2,h3,_⟩
 ·exact⟨_,_,O⟩
 exact⟨_,_,O⟩
theorem agx{l:List α}{Q:Array Value->ah->Prop}(H:Oq E row v l A)(K:Q (flat row l).toArray A):tr P h (Builtin.firstCells w l.length v) A Q:=by
 rcases H with⟨rfl,rfl,_⟩ | ⟨β,c,o,cap,J,rfl,rfl,h1,h2,h3,_⟩
 ·exact K
 have h6:=h3.len;have h7:=h3.extract;rw[gU]at h6 h7;simp only[Builtin.firstCells,loadCells];refine jL (.inr (bT ..)) _ 0 #[] aj ?_;simp only[Nat.add_zero,Array.empty_append];rw[h7];exact K
theorem NQ:∀(vs:List Value) (c:Array Value) {o:Nat} {xs:List Value},Part c o xs->o+xs.length+vs.length<=c.size->Part (gQ c (o+xs.length) vs) o (xs++vs)
 | [],c,o,xs,h,_=>by simpa[gQ]using h
 | u::r,c,o,xs,h,hn=>by
  simp only[gK]at hn
  have h':Part (c.setIfInBounds (o+xs.length) u) o (xs++[u]):=by
   obtain⟨pre,post,h1,h2⟩:=h
   cases post with
   | nil=>
    have:c.size=c.toList.length:=by simp
    rw[this,h1]at hn;simp at hn;omega
   | cons y post=>
    refine⟨pre,post,?_,h2⟩;rw[Array.toList_setIfInBounds,h1,<-h2];simp[List.set_append]
  have:=NQ r (c.setIfInBounds (o+xs.length) u) h' (by simp;omega);simpa[gQ,Nat.add_assoc]using this
theorem adE{ty E:Nat}[TD P t (.slice E)][TD P t' (.slice E')][TI P E w wO z zc]{x:Value}{l l':List α}{Q:Value->ah->Prop}(hzc:zc.size=w)
  (hs:Oq E row v l A) (hx:Sl h row x l') (hb:(2*(l.length+l'.length)+768)*wO<=2 ^ 48) (hby:0<wO)
  (K:∀v' A',Oq E row v' (l++l') A'->Q v' A'):tr P h (Builtin.append_ #[t,t'] ty #[v,x]) A Q:=by
 obtain⟨j,hj,hj1,hj2,hj3,hj4⟩:=TI.out (inferInstance:TI P E w wO z zc)
 have hm:((l.length+l'.length:Nat):Int)<=IntKind.i64.max:=by
  have h1:(2*(l.length+l'.length)+768)*1<=(2*(l.length+l'.length)+768)*wO:=Nat.mul_le_mul_left _ hby;have h2:IntKind.i64.max=9223372036854775807:=rfl;omega
 obtain⟨ax,J9,Sz,_⟩:=id hx;obtain⟨a,cap,hv⟩:=hs.aU;subst hv Sz;have e1:(#[t,t']:Array TypeId)[0]? =some t:=rfl;have e2:(#[t,t']:Array TypeId)[1]? =some t':=rfl;have e3:(#[Value.slice a l.length cap,Value.slice ax l'.length J9]:Array Value)[0]? =some (.slice a l.length cap):=rfl;have e4:(#[Value.slice a l.length cap,Value.slice ax l'.length J9]:Array Value)[1]? =some (.slice ax l'.length J9):=rfl;simp only[Builtin.append_,e1,e2,e3,e4,bind_eq,au,bind_assoc,bind_pure,aF,fF,eU,if_false,Builtin.lenOf,Bool.not_false,if_true];by_cases hc:l.length+l'.length<=cap
 ·rw[if_pos hc];refine cu (GV hx ?_);rcases hs with⟨rfl,he,yu⟩ | ⟨β,c,o,f_,J,he,rfl,h1,h2,h3,yu⟩
  ·cases he
   have:l'=[]:=jy.1 (by simp at hc;simp[hc]);subst this;exact K _ A (.inl ⟨O,O,yu⟩)
  cases he
  have hl3:=gU (row:=row) l;have ah4:=gU (row:=row) l'
  have hle:o+l.length*w+l'.length*w<=c.size:=by
   have:(l.length+l'.length)*w<=cap*w:=Nat.mul_le_mul_right _ hc;rw[Nat.add_mul]at this;omega
  have ea:(⟨β,o,none⟩:Addr).add (l.length*w)=⟨β,o+l.length*w,none⟩:=by rw[kF O]
  simp only[ea];refine cu (l9 (flat row l') 0 c (sH l') At.head (by rw[ah4];simp;omega) ?_);refine K _ _ (.inr ⟨β,gQ c (o+l.length*w) (flat row l'),o,cap,J,by rw[jA],by simp,by rw[wQ];exact h1,by rw[jA];exact hc,?_,yu⟩);rw[wR,<-hl3];exact NQ _ _ h3 (by rw[hl3,ah4];exact hle)
 rw[if_neg hc];have c1:¬(((l.length+l'.length:Nat):Int)>IntKind.i64.max/\(false=true\/(wO:Nat)=0)):=by omega
 have c2:¬Builtin.nextslicecap (l.length+l'.length) cap*wO>2 ^ 48:=by
  have:=Sj (show cap<l.length+l'.length by omega);have:=Nat.mul_le_mul_right wO this;omega
 simp only[iO hj,hj2];have c1':¬(((l.length+l'.length:Nat):Int)>IntKind.i64.max):=by omega
 simp only[c1',false_and,if_false];rw[iO hj,hj2,if_neg c2];intro n ⟨tp,hn⟩;have GN:l.length+l'.length<=n:=by rw[hn];simp only[Question.cut];omega
 clear hn c2;show tr P h (Sem.bind (typeInfo E) _) A Q;rw[iO hj,hj2]
 
 have room:∀{β:Type} {f:Unit->Sem β} {Q':β->ah->Prop},tr P h (f ()) A Q'->tr P h ((askRoom (n*wO)).bind f) A Q':=by
  intro β f Q' H;unfold askRoom;split
  ·exact⟨O,H⟩
  exact H
 refine room (cu (agx hs (cu (GV hx ?_))));simp only[jQ,hj4,newRow,bind_eq,au,bind_assoc,bind_pure];refine D_ fun r _ _=>?_;refine K _ _ (.inr ⟨r,_,0,n,A,by rw[jA],O,?_,by rw[jA];exact GN,?_,hs.shut⟩)
 ·simp only[Array.size_append,List.size_toArray,gU,GX,hzc,<-Nat.add_mul,Nat.zero_add];exact Nat.mul_le_mul_right _ aj
 refine⟨[],(Builtin.zeroCells zc (n- (l.length+l'.length))).toList,?_,O⟩;rw[wR];simp only[Array.toList_append,List.nil_append,eF]
theorem Oq.pop{p:α}{l:List α}(H:Oq E row (.slice a (p::l).length cap) (p::l) A):Oq E row (.slice (if cap=1 then a else a.map (·.add (1*w))) l.length (cap-1)) l A:=by
 rcases H with⟨he,_⟩ | ⟨β,c,o,f_,J,he,rfl,h1,h2,h3,hJ⟩
 ·cases he
 cases he
 have hp:Part c (o+w) (flat row l):=by
  have:=Part.sub (c:=c) (off:=o) (a:=row p) (b:=flat row l) (d:=[]) (by rw[List.append_nil,<-iW];exact h3);rwa[rw'.len]at this
 simp only[gK]at h2;split
 ·rename_i hc;subst hc;have:l=[]:=jy.1 aj;subst this;refine .inr ⟨β,c,o,0,J,O,O,aj,Nat.le_refl _,?_,hJ⟩;exact⟨c.toList.take o,c.toList.drop o,by simp[flat],by simp;omega⟩
 refine .inr ⟨β,c,o+w,cap-1,J,?_,O,?_,aj,hp,hJ⟩
 ·simp only[Option.map_some,kF,Nat.one_mul]
 have:cap*w=(cap-1)*w+w:=by
  obtain⟨k,rfl⟩:∃k,cap=k+1:=⟨cap-1,aj⟩
  rw[Nat.succ_mul];simp
 omega
end
section rules
variable{x:Cx}{ρ:Env}{F:ah}{S:ah->Prop}{o:Oper}{R:Value->ah->Prop}
section
variable{α:Type}{row:α->List Value}{w:Nat}[rw':Rw row w]
theorem agy{E:Nat}{yx:Operand}{xv:Value}{l l':List α}{U:ah->ah}(ho:o.op= .call ⟨.builtin .append, #[y,yx], #[t,t']⟩)[TD x.P t (.slice E)][TD x.P t' (.slice E')][TI x.P E w wO z zc]
  (hy:ev ρ y=some v) (hx:ev ρ yx=some xv) (hs:Oq E row v l A) (hg:L8 A F U) (aoY:∀h',Ext x.h h'->je (U []) h'->Sl h' row xv l') (hb:(2*(l.length+l'.length)+768)*wO<=2 ^ 48) (hby:0<wO) (hzc:zc.size=w)
  (K:∀v' A',Oq E row v' (l++l') A'->R v' (U A')):Ef x ρ o F R:=fun e he=>
 ⟨A,U [],hg.perm.1,fun h' e1 e2=>by
  simp only[execOp,ho,resolve,invoke,builtin,List.map_toArray,dQ,List.map_nil,he y _ hy,he yx _ hx,bind_eq,au,bind_pure];exact cu (adE hzc hs (aoY h' e1 e2) hb hby fun v' A' H=>⟨U A',hg.perm.2 A',K v' A' H⟩)⟩
end
theorem adF{E:Nat}{l:Nat}(ho:o.op= .slice t y (some lo) none none)[TD x.P t (.slice E)][TI x.P E s wO z zc](hy:ev ρ y=some (.slice a l cap))(hh:ev ρ lo=some (.int k (m:Int)))(hm:m<=l)(hl:l<=cap):Yv x S ρ o (.slice (if cap=m then a else a.map (·.add (m*s))) (l-m) (cap-m)):=fun e he F hF h' hE=>by
 have e1:(0:Int)<=m/\(m:Int)<=l:=by omega
 have e2:(0:Int)<=l/\(l:Int)<=cap:=by omega
 simp only[execOp,ho,he y _ hy,he lo _ hh,Instr.sliceAt,Instr.slice,Instr.sliceBounds,Instr.sliceBound,asIntOf,bind_eq,au,bind_assoc,bind_pure,Option.map_none,Option.map_some,aF,fF,if_pos e1,Int.toNat_natCast];exact⟨O,O⟩
end rules
def atP(es:Array MapEntry)(f:Int->Option Value):Prop:=∃m:List (Int×Value),es.toList.map (fun e=>(e.key,e.val))=m.map (fun p=>(nI p.1,p.2))/\(m.map (·.1)).Nodup/\∀x,m.lookup x=f x
theorem atP.nil:atP #[] fun _=>none:=⟨[],O,List.nodup_nil,fun _=>rfl⟩

section
variable{P:Program}{h:Hp}{F:ah}{β:Type}{Q:β->ah->Prop}{t:Nat}
end
section rules
variable{x:Cx}{ρ:Env}{F:ah}{S:ah->Prop}{o:Oper}{R:Value->ah->Prop}
theorem ajy{kt vt:Nat}{β clock:Nat}{es:Array MapEntry}{U:Obj->ah}(ho:o.op= .call ⟨.builtin .clear, #[y], #[t]⟩)[TD x.P t (.map kt vt)](hy:ev ρ y=some (.map (some β)))(hl:At β (.map es clock) F U)
  (H:R (.tuple #[]) (U (.map #[] clock))):Ef x ρ o F R:=
 Ef.uY fun e he h' hE=>by
  obtain⟨F1,F2,e1,e2⟩:=hl.split;have a1:(#[t]:Array TypeId)[0]? =some t:=rfl;have a2:(#[Value.map (some β)]:Array Value)[0]? =some (.map (some β)):=rfl;simp only[execOp,ho,resolve,invoke,builtin,List.map_toArray,dQ,List.map_nil,he y _ hy,Builtin.clear_,a1,a2,bind_eq,au,bind_assoc,bind_pure,aF];refine⟨.map es clock,.inr (by rw[e1];simp),(fun _ _ _=>by simp),O,?_⟩;simp only[au,bind_pure,bind_assoc];refine⟨.map es clock,F1,F2,e1,(fun _ _ _=>by simp),O,?_⟩;rw[e2]at H;exact⟨_,.inl O,H⟩
end rules
def adG(P:Program)(main:aN)(yv:Value)(h:Hp){X:Type}(Val:X->Value->ah->Prop)(xs:List X)(J:Nat->ah->Prop)(K:Nat->Value->ah->Prop):Prop:=
 ∀h',Ext h h'->∀k x v S A,xs[k]? =some x->Val x v S->je S h'->J k A->gG P main yv [v] h' A fun r A'=>(r= .bool true/\∃B,J (k+1) B/\Sb B A')\/(r= .bool false/\∃B,K k v B/\Sb B A')
def axc{X:Type}(Val:X->Value->ah->Prop)(xs:List X)(J:Nat->ah->Prop)(K:Nat->Value->ah->Prop)(A':ah):Prop:=
 (∃B,J xs.length B/\Sb B A')\/∃k x v S B,xs[k]? =some x/\Val x v S/\K k v B/\Sb (B++S) A'
def ajz(P:Program)(main:aN)(fv:Value){X:Type}(Val:X->Value->ah->Prop)(xs:List X)(h:Hp):Prop:=
 ∀h',Ext h h'->∀(yv:Value),one yv=true->∀(J:Nat->ah->Prop) (K:Nat->Value->ah->Prop),adG P main yv h' Val xs J K->∀A,J 0 A->gG P main fv [yv] h' A fun _ A'=>axc Val xs J K A'
theorem adG.ext{main:aN}{yv:Value}{J:Nat->ah->Prop}{K:Nat->Value->ah->Prop}(H:adG P main yv h Val xs J K)(e:Ext h h'):adG P main yv h' Val xs J K:=
 fun Gm e'=>H Gm (e.trans e')
theorem ajz.ext{main:aN}(H:ajz P main fv Val xs h)(e:Ext h h'):ajz P main fv Val xs h':=
 fun Gm e'=>H Gm (e.trans e')

def atQ{X:Type}(Val:X->Value->ah->Prop)(xs:List X)(J:Nat->ah->Prop)(K:Nat->Value->ah->Prop)(R:ah)(A':ah):Prop:=
 (∃B,J xs.length B/\Sb (B++R) A')\/∃k x v S B,xs[k]? =some x/\Val x v S/\K k v B/\Sb (B++S++R) A'
def abk(P:Program)(main:aN)(fv:Value){X:Type}(Val:X->Value->ah->Prop)(xs:List X)(R:ah)(h:Hp):Prop:=
 ∀h',Ext h h'->∀(yv:Value),one yv=true->∀(J:Nat->ah->Prop) (K:Nat->Value->ah->Prop),adG P main yv h' Val xs J K->∀A,J 0 A->gG P main fv [yv] h' (A++R) fun _ A'=>atQ Val xs J K R A'
theorem abk.ext{main:aN}(H:abk P main fv Val xs R h)(e:Ext h h'):abk P main fv Val xs R h':=
 fun Gm e'=>H Gm (e.trans e')

def atS{X:Type}(Val:X->Value->ah->Prop)(xs:List X)(J:Nat->ah->Prop)(K:Nat->Value->ah->Prop)(RP:ah->Prop)(A':ah):Prop:=∃R,RP R/\atQ Val xs J K R A'
def aof(P:Program)(main:aN)(fv:Value){X:Type}(Val:X->Value->ah->Prop)(xs:List X)(adH:ah)(RP:ah->Prop)(h:Hp):Prop:=
 ∀h',Ext h h'->∀(yv:Value),one yv=true->∀(J:Nat->ah->Prop) (K:Nat->Value->ah->Prop),adG P main yv h' Val xs J K->∀A,J 0 A->gG P main fv [yv] h' (A++adH) fun _ A'=>atS Val xs J K RP A'
theorem W.ajA{x:Cx}{Q:fO}{f:Operand}{t:Tmp}(adH:ah)(RP:ah->Prop)(hf:ev ρ f=some fv)(FK:x.ro=none)(ht:Nat.blt t x.n=true)
  (D:Nat->ah->Prop) (DX:Nat->Value->Exit->ah->Prop) (hs:L8 (A₀++adH) F kH) (h0:D 0 A₀)
  (hi:∀h',Ext x.h h'->je (kH []) h'->aof x.P x.main fv Val xs adH RP h')
  (
   body:∀k p v S A,xs[k]? =some p->Val p v S->D k A->∀l h',Ext x.h h'->je (kH []) h'->je S h'->W {x with ro:=some l,h:=h'} us (fun e Aw Az vG=>e= .normal/\Az=[]/\∀h',Ext x.h h'->je (kH []) h'->je S h'->
   W {x with ro:=some l,h:=h'} bd (fun e _ nO qK=>nO=[]/\((e= .normal/\∃B,D (k+1) B/\Sb B qK)\/((wU e).isSome=true/\∃B,DX k v e B/\Sb B qK))) Aw [] vG) ((t,v)::ρ) [] A)
  (after:∀e A R,RP R->((e= .normal/\D xs.length A)\/∃k p v S B,xs[k]? =some p/\Val p v S/\DX k v e B/\A=B++S)->∀d,Q e ρ (mark d::ds) ((d,.deferred (some []))::kH (A++R))):W x (.rangeFunc f #[t] us bd) Q ρ ds F:=by
 refine W.rangeFunc hf FK fun tmps LD oH l d=>?_
 let L (s:LoopState) (pd:Option Code):Obj:=.loop {state:=s,pending:=pd,fn:=x.fn,tmps,params:= #[t],assign:=us,body:=bd,defers:=d}
 let J:Nat->ah->Prop:=fun k A=>∃B,D k B/\A=B++[(l,L .ready none)]
 let K:Nat->Value->ah->Prop:=fun k v A=>∃B e c,DX k v e B/\wU e=some c/\A=B++[(l,L .done (some c))]
 refine⟨(A₀++[(l,L .ready none)])++adH,(d,.deferred (some []))::kH [],fun _ A'=>atS Val xs J K RP A',?_,?_,?_⟩
 ·have p1:((A₀++[(l,L .ready none)])++adH).Perm ((l,L .ready none)::(A₀++adH)):=by
   rw[eF];exact List.perm_middle
  refine(p1.append_right _).trans ?_;refine List.Perm.cons _ ?_;exact List.perm_middle.trans (hs.perm.1.cons _)
 ·intro h' e1 e2;have e3:je (kH []) h':=fun b o hb=>e2 b o (dH _ hb);refine hi h' e1 e3 h' ⟨fun _ _ z=>z,fun _ z=>z⟩ _ O J K ?_ _ ⟨A₀,h0,O⟩;rintro Gm e4 k p v S A hp hV hS ⟨B,hB,rfl⟩;have hE:Ext x.h Gm:=e1.trans e4;have hL:je (kH []) Gm:=fun b o hb=>e4.1 _ _ (e3 b o hb);refine⟨_,_,_,O,?_⟩;simp only[invoke,Instr.yield,Instr.getLoop,bind_eq,au,bind_assoc];refine⟨L .ready none,.inr (bZ _ (bT ..)),(fun _ _ _=>by simp[L]),O,?_⟩;have ez:Array.foldl (fun(tmps:Array Value) (x:Tmp×Value)=>tmps.setIfInBounds x.1 x.2) tmps (#[t].zip #[v])=tmps.setIfInBounds t v:=by simp
  show tZ x.P x.main Gm _ (.round l x.fn (Array.foldl (fun(tmps:Array Value) (x:Tmp×Value)=>tmps.setIfInBounds x.1 x.2) tmps (#[t].zip #[v])) us bd) _;rw[ez];have fK:t<tmps.size:=by rw[oH];exact Nat.le_of_ble_eq_true ht
  have ah5:jf ((t,v)::ρ) (tmps.setIfInBounds t v):=LD.put fK _;have acW:(tmps.setIfInBounds t v).size=x.n:=by simpa using oH
  show Rnd x.P x.main l x.fn (tmps.setIfInBounds t v) us bd Gm _ _;refine Rnd.gX _ ah5 ?_;rw[acW];refine(W.frame (x:={x with ro:=some l,h:=Gm}) fun SE e5 _=>body k p v S B hp hV hB l SE (hE.trans e5) (fun b o hb=>e5.1 _ _ (hL b o hb)) (fun b o hb=>e5.1 _ _ (hS b o hb))).mono ?_;rintro e Aw Az vG ⟨A',⟨rfl,rfl,hbd⟩,rfl⟩;refine⟨O,O,?_⟩;simp only[Instr.beginRound,Instr.getLoop,bind_eq,au,bind_assoc];refine⟨L .ready none,.inr (bZ _ (bT ..)),(fun _ _ _=>by simp[L]),O,?_⟩;refine⟨L .ready none,A',[],O,(fun _ _ _=>by simp[L]),O,?_⟩;show W _ _ _ _ _ (A'++[(l,L .busy none)]);refine(W.frame (x:={x with ro:=some l,h:=Gm}) fun SE e5 _=>hbd SE (hE.trans e5) (fun b o hb=>e5.1 _ _ (hL b o hb)) (fun b o hb=>e5.1 _ _ (hS b o hb))).mono ?_;rintro e Fa nO qK ⟨afQ,⟨rfl,atT⟩,rfl⟩;rcases atT with⟨rfl,Kq,GZ,bF⟩ | ⟨hj,Kq,GZ,bF⟩
  ·refine⟨O,none,O,?_⟩;simp only[Instr.endRound,Instr.getLoop,bind_eq,au,bind_assoc];refine⟨L .busy none,.inr (bZ _ (bT ..)),(fun _ _ _=>by simp[L]),O,?_⟩;refine⟨L .busy none,afQ,[],O,(fun _ _ _=>by simp[L]),O,?_⟩;exact .inl ⟨O,Kq++[(l,L .ready none)],⟨Kq,GZ,O⟩,bF.app .refl⟩
  obtain⟨c,hc⟩:=iJ.1 hj;refine⟨O,some c,?_,?_⟩
  ·have:=Bq (e:=some e) (fun x hx=>by cases hx;exact hj);rw[<-hc];exact this
  simp only[Instr.endRound,Instr.getLoop,bind_eq,au,bind_assoc];refine⟨L .busy none,.inr (bZ _ (bT ..)),(fun _ _ _=>by simp[L]),O,?_⟩;refine⟨L .busy none,afQ,[],O,(fun _ _ _=>by simp[L]),O,?_⟩;exact .inr ⟨O,Kq++[(l,L .done (some c))],⟨Kq,e,c,GZ,hc,O⟩,bF.app .refl⟩
 have p2:∀(R A:ah) (o:Obj),((d,Obj.deferred (some []))::kH (A++R)).Perm ((A++R)++(d,.deferred (some []))::kH []):=fun R A o=>((hs.perm.2 (A++R)).cons _).trans (List.perm_middle (l₁:=A++R)).symm;rintro _ A' ⟨R,hRP,⟨B,⟨A,hA,rfl⟩,qB⟩ | ⟨k,p,v,S,B,hp,hV,⟨A,e,c,hA,hc,rfl⟩,qB⟩⟩
 ·refine⟨A++[(l,L .ready none)]++R,qB,?_⟩;simp only[Instr.endLoop,Instr.getLoop,bind_eq,au,bind_assoc];refine⟨L .ready none,.inr (by simp),(fun _ _ _=>by simp[L]),O,?_⟩;refine⟨L .ready none,A,R++(d,.deferred (some []))::kH [],by simp,(fun _ _ _=>by simp[L]),O,?_⟩;refine⟨(d,.deferred (some []))::kH (A++R),?_,after _ A R hRP (.inl ⟨O,hA⟩) d⟩;refine Sb.trans (Sb.aT (p2 R A (L .ready none))) ?_;rw[eF];exact Sb.app .refl (Sb.skip O .refl)
 refine⟨A++[(l,L .done (some c))]++S++R,qB,?_⟩;simp only[Instr.endLoop,Instr.getLoop,bind_eq,au,bind_assoc];refine⟨L .done (some c),.inr (by simp),(fun _ _ _=>by simp[L]),O,?_⟩;refine⟨L .done (some c),A,S++(R++(d,.deferred (some []))::kH []),by simp,(fun _ _ _=>by simp[L]),O,?_⟩;show W x c Q ρ (mark d::ds) _;refine W.sb (F':=(d,.deferred (some []))::kH ((A++S)++R)) ?_ ?_
 ·refine Sb.trans (Sb.aT (p2 R (A++S) (L .ready none))) ?_;rw[eF,eF];exact Sb.app .refl (Sb.skip O .refl)
 have q:=after e (A++S) R hRP (.inr ⟨k,p,v,S,A,hp,hV,hA,O⟩) d
 cases e <;>simp only[wU,dY]at hc <;>first | (cases hc;done) | subst hc
 ·exact W.exit q
 ·exact W.goto q
 exact W.ret q

theorem W.aqj{x:Cx}{Q:fO}{f:Operand}{t:Tmp}(R:ah)(hf:ev ρ f=some fv)(FK:x.ro=none)(ht:Nat.blt t x.n=true)
  (D:Nat->ah->Prop) (DX:Nat->Value->Exit->ah->Prop) (hs:L8 (A₀++R) F kH) (h0:D 0 A₀)
  (hi:∀h',Ext x.h h'->je (kH []) h'->abk x.P x.main fv Val xs R h')
  (
   body:∀k p v S A,xs[k]? =some p->Val p v S->D k A->∀l h',Ext x.h h'->je (kH []) h'->je S h'->W {x with ro:=some l,h:=h'} us (fun e Aw Az vG=>e= .normal/\Az=[]/\∀h',Ext x.h h'->je (kH []) h'->je S h'->
   W {x with ro:=some l,h:=h'} bd (fun e _ nO qK=>nO=[]/\((e= .normal/\∃B,D (k+1) B/\Sb B qK)\/((wU e).isSome=true/\∃B,DX k v e B/\Sb B qK))) Aw [] vG) ((t,v)::ρ) [] A)
  (after:∀e A,((e= .normal/\D xs.length A)\/∃k p v S B,xs[k]? =some p/\Val p v S/\DX k v e B/\A=B++S)->∀d,Q e ρ (mark d::ds) ((d,.deferred (some []))::kH (A++R))):W x (.rangeFunc f #[t] us bd) Q ρ ds F:=
 W.ajA R (· =R) hf FK ht D DX hs h0 (fun h' e l Gm e' yv hy J K H A hA=>(hi h' e l Gm e' yv hy J K H A hA).mono fun _ _ q=>⟨R,O,q⟩) body fun e A R' hR=>by subst hR;exact after e A
abbrev Spc:=Nat×Nat×(Value->ah->Prop)
def waits(ops:Array Oper):Nat->Nat->Nat->Bool
 | 0,_,_=>false
 | n+1,k,b=>match ops[k]? with | some o=>o.after.any fun e=>lK e&&(Nat.beq e.on b|| waits ops n e.on b) | none=>false
structure ajB(ops:Array Oper)(listed:Nat)(B:List Nat):Prop where
 cl:Closed ops listed
 low:∀k o,ops[k]? =some o->∀e∈o.after,lK e=true->e.on<k
 or:∀k,k<ops.size->listed.testBit k=false->k∈B\/∀b∈B,waits ops 6 k b=true
 un:∀b∈B,b<ops.size/\listed.testBit b=false
 nd:B.Nodup

theorem ajB.some{ops:Array Oper}{B:List Nat}(h:ajB ops listed B)(hb:b∈B):rH ops listed≠[]:=by
 have key:∀(n k:Nat),k<n->k<ops.size->listed.testBit k=false->∃i,Oo ops listed i=true:=by
  intro n
  induction n with
  | zero=>intro k hk;omega
  | succ n ih=>
   intro k hk fK hl;by_cases hr:Oo ops listed k=true
   ·exact⟨k,hr⟩
   simp only[Oo,Array.getElem?_eq_getElem fK,hl,Bool.not_false,Bool.true_and,Array.all_eq_true_iff_forall_mem,Bool.or_eq_true,Bool.not_eq_true']at hr
   have:∃e∈(ops[k]).after,lK e=true/\listed.testBit e.on=false:=by
    refine Classical.byContradiction fun hn=>hr fun e he=>?_
    cases hbe:lK e with
    | false=>exact .inl rfl
    | true=>
     cases ht:listed.testBit e.on with
     | true=>exact .inr rfl
     | false=>exact absurd ⟨e,he,hbe,ht⟩ hn
   obtain⟨e,he,h1,h2⟩:=this;have:=h.low k _ (Array.getElem?_eq_getElem fK) e he h1;exact ih e.on aj aj h2
 obtain⟨i,hi⟩:=key (b+1) b aj (h.un b hb).1 (h.un b hb).2;intro e;have:=uf.2 hi;rw[e]at this
 cases this

theorem ajB.step{ops:Array Oper}{j:Nat}{B1 B2:List Nat}(h:ajB ops listed (B1++j::B2))(hj:Oo ops listed j=true):ajB ops (listed||| 2 ^ j) (B1++B2):=by
 have uX:j∉B1++B2:=by
  have:=(List.perm_middle (a:=j) (l₁:=B1) (l₂:=B2)).nodup_iff.1 h.nd;exact(List.nodup_cons.1 this).1
 refine⟨h.cl.step hj,h.low,fun k hk hl=>?_,fun b hb=>?_,?_⟩
 ·rw[testBit_or,Bool.or_eq_false_iff]at hl;have iK:j≠k:=by simpa using hl.2
  rcases h.or k hk hl.1 with h' | h'
  ·left;rcases dh.1 h' with h' | h'
   ·exact jm _ h'
   rcases bU.1 h' with h' | h'
   ·exact absurd h'.symm iK
   exact bZ _ h'
  right;intro b hb;refine h' b ?_;rcases dh.1 hb with hb | hb
  ·exact jm _ hb
  exact bZ _ (dH _ hb)
 ·have wz:b∈B1++j::B2:=by
   rcases dh.1 hb with hb | hb
   ·exact jm _ hb
   exact bZ _ (dH _ hb)
  refine⟨(h.un b wz).1,?_⟩;rw[testBit_or,(h.un b wz).2,Bool.false_or,decide_eq_false_iff_not];rintro rfl;exact uX hb
 have:=(List.perm_middle (a:=j) (l₁:=B1) (l₂:=B2)).nodup_iff.1 h.nd;exact(List.nodup_cons.1 this).2

def agz(x:Cx)(ops:Array Oper)(ε:Ev)(s:Spc):Prop:=
 ∃o,ops[s.1]? =some o/\o.dst=some s.2.1/\iy o.dst x.n=true/\(∀c,o.op≠ .defer c)/\o.guard=none/\∀e,Cons ε e->∀F,LQ x o e F fun v F'=>∃A WE,WE.Perm F'/\s.2.2 v A/\WE=A++F

theorem Cons.back{ε:Ev}{d:Nat}{e:Operand->Value}(h:Cons (upd ε (some d) v) e)(hd:ε d=none):Cons ε e:=fun y u hy=>h y u (by
 cases y with
 | tmp t=>
  simp only[afI,upd]at hy⊢
  cases hb:Nat.beq t d with
  | true=>rw[Nat.eq_of_beq_eq_true hb,hd]at hy;cases hy
  | false=>exact hy
 | _=>exact hy)

section rules
variable{x:Cx}{Q:fO}{ρ:Env}{ds:List Deferred}{F:ah}{ops:Array Oper}{L:ah}{fuel listed:Nat}
theorem agz.of{d:Nat}{P:Value->ah->Prop}{op:Op}(ho:dS ops.toList i=some ⟨some d,op,ty,pos,bW,none⟩)(hd:Nat.blt d x.n=true)(hn:fB op=true)(H:∀F,Ef x ρ ⟨some d,op,ty,pos,bW,none⟩ F fun v F'=>∃A,P v A/\F'=A++F):agz x ops (look ρ) (i,d,P):=
 ⟨_,aK ho,O,hd,kN hn,O,fun e he F=>(H F e fun y v hy=>he y v (by rw[t_];exact hy)).mono fun v F' ⟨WE,p,A,hv,e⟩=>⟨A,WE,p,hv,e⟩⟩
theorem agz.call{d f:Nat}{P:Value->ah->Prop}{args:List Operand}{ts:Array TypeId}{vs:List Value}(H:∀h',Ext x.h h'->bG x.P x.main f vs.toArray h' [] P)(ho:dS ops.toList i=some ⟨some d,.call ⟨.value (.func f),args.toArray,ts⟩,ty,pos,bW,none⟩:=by rfl)[FB x.P f](hv:jv ρ args=some vs:=by rfl)(hd:Nat.blt d x.n=true:=by rfl):agz x ops (look ρ) (i,d,P):=
 .of ho hd O fun F=>oL O hv (fun h' hE _=>H h' hE) fun v A' hv=>⟨A',hv,O⟩
def axd(t:TypeId)(zc:Array Value)(v:Value)(A:ah):Prop:=∃β,v= .pointer (some ⟨β,0,none⟩)/\A=[(β,.cells zc t (0,0))]
theorem agz.new{d:Nat}(ho:dS ops.toList i=some ⟨some d,.alloc t,ty,pos,bW,none⟩:=by rfl)[TI x.P t s b z zc](hd:Nat.blt d x.n=true:=by rfl):agz x ops (look ρ) (i,d,axd t zc):=
 .of ho hd O fun F=>Yg O fun β _ _=>⟨_,⟨β,O,O⟩,O⟩
end rules
section
variable{α:Type}{row:α->List Value}{w:Nat}[rw':Rw row w]
section
variable{x:Cx}{ρ:Env}{F:ah}{o:Oper}{R:Value->ah->Prop}
end
end
section
variable{x:Cx}{S:ah->Prop}{ρ:Env}{o:Oper}
theorem agA{E:Nat}{l:Nat}(ho:o.op= .slice t y (some lo) none none)[TD x.P t (.slice E)][TI x.P E s wO z zc](hy:ev ρ y=some (.slice a l cap))(hh:ev ρ lo=some (.int k (m:Int)))(hm:m<=l:=by omega):Yv x S ρ o (.slice (if cap=m then a else a.map (·.add (m*s))) (l-m) (cap-m)):=fun e he F hF h' hE=>by
 have e1:(0:Int)<=m/\(m:Int)<=l:=by omega
 simp only[execOp,ho,he y _ hy,he lo _ hh,Instr.sliceAt,Instr.slice,Instr.sliceBounds,Instr.sliceBound,asIntOf,bind_eq,au,bind_assoc,bind_pure,Option.map_none,Option.map_some,aF,fF,if_pos e1,Int.toNat_natCast];exact⟨O,O⟩
end
section
variable{x:Cx}{Q:fO}{ρ:Env}{ds:List Deferred}{ops:Array Oper}{G:ah}{V4 ady al9 aqk aAo aAp:Nat×Obj}{id n:Nat}
theorem W.adI(hn:ops.size=n)(H:Any x ops [V4,ady,al9,aqk] n 0 Q ρ ds (V4::ady::al9::aqk::G))[MO x.P]:W x (.region id ops true) Q ρ ds (V4::ady::al9::aqk::G):=W.kQ _ hn H
end
structure Sv where
  a:Option Addr
  n:Nat
  cap:Nat
abbrev Sv.val(s:Sv):Value:=.slice s.a s.n s.cap
variable{vs:List Sv}
section
variable{α:Type}{row:α->List Value}{w:Nat}[rw':Rw row w]{E:TypeId}
inductive Oss(E:TypeId)(row:α->List Value)[Rw row w]:List Sv->List (List α)->ah->Prop
  | nil:Oss E row [] [] []
  | cons {s:Sv} {l:List α} {A B:ah} {vs:List Sv} {ls:List (List α)}:Os E row s.val l A->Oss E row vs ls B->Oss E row (s::vs) (l::ls) (A++B)
theorem Oss.len{ls:List (List α)}(h:Oss E row vs ls A):vs.length=ls.length:=by
  induction h with
  | nil=>rfl
  | cons _ _ ih=>simp[ih]
theorem Oss.shut{ls:List (List α)}(h:Oss E row vs ls A):eH A:=by
  induction h with
  | nil=>exact .nil
  | cons h _ ih=>exact h.shut.app ih
theorem Oss.snoc{ls:List (List α)}{s:Sv}{l:List α}(h:Oss E row vs ls A)(hs:Os E row s.val l B):Oss E row (vs++[s]) (ls++[l]) (A++B):=by
  induction h with
  | nil=>have:=Oss.cons hs .nil;simpa using this
  | cons h1 _ ih=>have:=Oss.cons h1 ih;rw[<-eF]at this;exact this
theorem Oss.sl{ls:List (List α)}(h:Oss E row vs ls A)(hL:∀b o,(b,o)∈A->h' b=some o):∀{k:Nat} {s:Sv} {l:List α},vs[k]? =some s->ls[k]? =some l->Sl h' row s.val l:=by
  induction h with
  | nil=>intro k s l hs;simp at hs
  | cons h1 _ ih=>
    intro k s l hs hl;rcases k with _ | k
    · simp at hs hl;subst hs hl;exact h1.sl fun b o hb=>hL b o (jm _ hb)
    simp at hs hl;exact ih (fun b o hb=>hL b o (bZ _ hb)) hs hl
end
section
variable{x:Cx}{ρ:Env}{F:ah}{o:Oper}{R:Value->ah->Prop}
theorem abm{E n:Nat}{y':Operand}(ho:o.op= .makeSlice t y y')[TD x.P t (.slice E)][TI x.P E 1 wO z #[z]](hy:ev ρ y=some (.int .i64 (n:Int)))(hy':ev ρ y'=some (.int .i64 (n:Int)))(hb:wO*n<=2 ^ 48/\n<=1000000)
    (K:∀β,R (.slice (some ⟨β,0,none⟩) n n) ((β,.cells (List.replicate n z).toArray E (0,0))::F)):Ef x ρ o F R:=
  Ef.uY fun e he h' hE=>by
    obtain⟨j,hj,hj1,hj2,hj3,hj4⟩:=TI.out (inferInstance:TI x.P E 1 wO z #[z]);have hw:IntKind.i64.wrap (n:Int)=n:=AA aj aj;have c1:¬((n:Int)<0):=by omega
    have c2:¬((wO:Int)*(n:Int)>2 ^ 48):=by
                                                         have:((wO*n:Nat):Int)<=2 ^ 48:=by exact_mod_cast hb.1
                                                         rw[Int.natCast_mul]at this;omega
    have c3:¬((n:Int)>n):=by omega
    simp only[execOp,ho,he y _ hy,he y' _ hy',Instr.makeSlice,asInt,asIntOf,bind_eq,au,bind_assoc,bind_pure,aF,iO hj,hj2,hw];simp only[c1,c2,c3,decide_false,Bool.or_false,eU,if_false]
    have room:∀{β:Type} {f:Unit->Sem β} {Q':β->ah->Prop},tr x.P h' (f ()) F Q'->tr x.P h' ((askRoom (((n:Int).toNat)*wO)).bind f) F Q':=by
      intro β f Q' H;unfold askRoom;split
      · exact⟨O,H⟩
      exact H
    refine cu (room ?_);simp only[fF,Int.toNat_natCast,Nat.mul_one]
    have axe:(Array.range n).map (fun i=>(#[z]:Array Value)[i % (#[z]:Array Value).size]!)=(List.replicate n z).toArray:=by
      apply Array.ext
      · simp
      intro i h1 h2;simp[Nat.mod_one]
    by_cases h0:n=0
    · subst h0;have e0:(Array.range 0).map (fun x=>(#[]:Array Value)[x % (#[]:Array Value).size]!)=(List.replicate 0 z).toArray:=by simp
      simp only[if_true,newRow,bind_eq,au,bind_assoc,bind_pure,e0];exact D_ fun r h1 h2=>⟨_,.inl O,K r⟩
    simp only[if_neg h0,jQ,hj4,newRow,bind_eq,au,bind_assoc,bind_pure,axe];exact D_ fun r h1 h2=>⟨_,.inl O,K r⟩
end
theorem W.cut{x:Cx}{c c2:Code}{Q:fO}(L:Env)(G:ah)(H:W x c (fun e gW iT F'=>e= .normal/\iT=ds/\Sub L gW/\Sb G F') ρ ds F)(K:W x c2 Q L ds G):W x c (thn (fun gW iT F'=>W x c2 Q gW iT F') Q) ρ ds F:=
 W.mono H fun e gW iT F' h=>by
  obtain⟨he,hd,hs,hb⟩:=h;subst he hd;exact fH (W.env hs (W.sb hb K))
theorem DC(main:aN)(h:Hp)(ss:List Int)(vs:Value)(hs:Sl h bY vs ss)(hn:ss.length<=1000):bG aV main KA #[vs] h [] (fun v A=>∃S,Os aX bY v ss S/\Sb S A):=by
 obtain⟨a,cap,rfl⟩:=hs.aU;refine bG.bH func39 [(0,.slice a ss.length cap)] ?_;refine kR ?_;refine b_ (Rh O O) O ?_;refine qj ?_;refine W.cond O (fun c4=>?_) (fun c4=>?_)
 ·refine lg ?_
  have:ss=[]:=by
   cases a with
   | some a=>cases c4
   | none=>
    rcases hss:ss with _ | ⟨x,r⟩
    ·rfl
    obtain⟨b,off,c,E,fz,e,_⟩:=hs.at (i:=0) (p:=x) (by rw[hss];rfl)
    cases e
  subst this;exact iQ (vs:=[.slice none 0 0]) ⟨[],.nil .nil,.refl⟩
 refine lF ?_;refine aA.alJ (fun iI=>?_) O;refine zT ?_;have hO:Os aX bY (.slice (some ⟨iI,0,none⟩) 0 0) ([]:List Int) [(iI,.cells #[] aX (0,0))]:=.inr ⟨iI, #[],0,[],O,O,O,Nat.le_refl _,Part.all [],.nil⟩;refine oe O wn O O (bV (row:=bY) (l:=[]) (l':=ss) O O O hO .all (fun h2 hE hl=>hs.ext hE) (by simp;omega) dF O (fun v' S' xM=>?_));rw[List.nil_append]at xM;refine gI ?_;exact iQ (vs:=[v']) ⟨S',xM,.refl⟩

set_option linter.unusedVariables false
set_option linter.unusedSectionVars false
section
variable{T:Type}[DecidableEq T](st:Nat->T->Option T)(N most:Nat)(is:T->Bool)
def rD(w:List Nat)(t:T):List Nat->List T->List (List Nat×T)->List T×List (List Nat×T)
 | [],met,todo=>(met,todo)
 | i::r,met,todo=>match st i t with
  | none=>rD w t r met todo
  | some u=>if u=t\/u∈met then rD w t r met todo else rD w t r (met++[u]) (todo++[(w++[i],u)])
def Ld:Nat->List T->List (List Nat×T)->Option (List Nat)
 | 0,_,_=>none
 | _+1,_,[]=>none
 | n+1,met,(w,t)::todo=>if is t then some w else if w.length=most then Ld n met todo else
  Ld n (rD st w t (List.range N) met todo).1 (rD st w t (List.range N) met todo).2
variable{st N most is}
def V8(most:Nat)(todo:List (List Nat×T)):Nat:=(todo.map fun x=>5 ^ (most+1-x.1.length)).sum
theorem amy{a b:List (List Nat×T)}:V8 most (a++b)=V8 most a+V8 most b:=by simp[V8]
theorem NR{w:List Nat}{t:T}:∀{r:List Nat} {met:List T} {todo:List (List Nat×T)},V8 most (rD st w t r met todo).2<=V8 most todo+r.length*5 ^ (most-w.length)
 | [],met,todo=>by simp[rD]
 | i::r,met,todo=>by
  have e:(r.length+1)*5 ^ (most-w.length)=r.length*5 ^ (most-w.length)+5 ^ (most-w.length):=Nat.succ_mul _ _;simp only[rD,gK];have more:r.length*5 ^ (most-w.length)<=(r.length+1)*5 ^ (most-w.length):=Nat.mul_le_mul_right _ (Nat.le_succ _);split
  ·exact Nat.le_trans NR (Nat.add_le_add_left more _)
  rename_i u hu;split
  ·exact Nat.le_trans NR (Nat.add_le_add_left more _)
  have h1:=NR (r:=r) (met:=met++[u]) (todo:=todo++[(w++[i],u)]) (w:=w) (t:=t)
  have h2:V8 most (todo++[(w++[i],u)])=V8 most todo+5 ^ (most-w.length):=by
   rw[amy];have:most+1- (w++[i]).length=most-w.length:=by simp
   simp only[V8,dQ,List.map_nil,List.sum_cons,List.sum_nil,this,Nat.add_zero]
  rw[h2,Nat.add_assoc,Nat.add_comm (5 ^ _)]at h1;rw[e];exact h1
theorem afc{w:List Nat}{t:T}{met:List T}{todo:List (List Nat×T)}(hN:N<=4)(hw:w.length<most):V8 most (rD st w t (List.range N) met todo).2<V8 most ((w,t)::todo):=by
 have h:=NR (st:=st) (most:=most) (w:=w) (t:=t) (r:=List.range N) (met:=met) (todo:=todo)
 have e:5 ^ (most+1-w.length)=5*5 ^ (most-w.length):=by
  rw[show most+1-w.length=(most-w.length)+1 by omega,Nat.pow_succ,Nat.mul_comm]
 have hp:0<5 ^ (most-w.length):=Nat.pow_pos dF;have hm:N*5 ^ (most-w.length)<=4*5 ^ (most-w.length):=Nat.mul_le_mul_right _ hN;simp only[List.length_range]at h;simp only[V8,dQ,List.sum_cons]at h⊢;rw[e];generalize N*5 ^ (most-w.length)=A at*;generalize 5 ^ (most-w.length)=B at*;omega
theorem abn{x:List Nat×T}{todo:List (List Nat×T)}:V8 most todo<V8 most (x::todo):=by
 have hp:0<5 ^ (most+1-x.1.length):=Nat.pow_pos dF;simp only[V8,dQ,List.sum_cons];omega
theorem DI{w:List Nat}{t:T}{n:Nat}(hw:w.length+1<=n):∀{r:List Nat} {met:List T} {todo:List (List Nat×T)},(∀x∈todo,x.1.length<=n)->∀x∈(rD st w t r met todo).2,x.1.length<=n
 | [],met,todo,h=>h
 | i::r,met,todo,h=>by
  simp only[rD];split
  ·exact DI hw h
  split
  ·exact DI hw h
  refine DI hw fun x hx=>?_;rcases dh.1 hx with hx | hx
  ·exact h x hx
  rw[dP.1 hx];simpa using hw

def goG(st:Nat->T->Option T)(N:Nat):T->List Nat->T->Prop
 | t,[],e=>t=e
 | t,i::r,e=>i<N/\∃u,st i t=some u/\goG st N u r e
theorem abo{i:Nat}{u e:T}(hi:i<N)(hu:st i u=some e):∀{l:List Nat} {t:T},goG st N t l u->goG st N t (l++[i]) e
 | [],t,h=>by cases h;exact⟨hi,e,hu,rfl⟩
 | k::l,t,⟨hk,v,hv,h⟩=>⟨hk,v,hv,abo hi hu h⟩
theorem NT{w:List Nat}{t t0:T}(hw:goG st N t0 w t):∀{r:List Nat} {met:List T} {todo:List (List Nat×T)},(∀i∈r,i<N)->(∀x∈todo,goG st N t0 x.1 x.2)->∀x∈(rD st w t r met todo).2,goG st N t0 x.1 x.2
 | [],met,todo,_,h=>h
 | i::r,met,todo,hr,h=>by
  simp only[rD];split
  ·exact NT hw (fun j hj=>hr j (dH _ hj)) h
  rename_i u hu;split
  ·exact NT hw (fun j hj=>hr j (dH _ hj)) h
  refine NT hw (fun j hj=>hr j (dH _ hj)) fun x hx=>?_;rcases dh.1 hx with hx | hx
  ·exact h x hx
  rw[dP.1 hx];exact abo (hr i (bT ..)) hu hw
theorem Zl{t0:T}:∀{n:Nat} {met:List T} {todo:List (List Nat×T)} {w:List Nat},(∀x∈todo,goG st N t0 x.1 x.2/\x.1.length<=most)->Ld st N most is n met todo=some w->w.length<=most/\∃e,goG st N t0 w e/\is e=true
 | 0,_,_,_,_,e=>by cases e
 | n+1,_,[],_,_,e=>by cases e
 | n+1,met,(w,t)::todo,v,h,e=>by
  simp only[Ld]at e;have h0:=h _ (bT ..);split at e
  ·rename_i hi
   cases e
   exact⟨h0.2,t,h0.1,hi⟩
  split at e
  ·exact Zl (fun x hx=>h x (dH _ hx)) e
  rename_i hn;have hl:w.length+1<=most:=by have:=h0.2;simp only at this;omega
  exact Zl (fun x hx=>⟨NT h0.1 (fun i hi=>List.mem_range.1 hi) (fun y hy=>(h y (dH _ hy)).1) x hx,DI hl (fun y hy=>(h y (dH _ hy)).2) x hx⟩) e

structure aql(st:Nat->T->Option T)(N most:Nat)(is:T->Bool)(t0:T)(met:List T)(dn todo:List (List Nat×T)):Prop where
 ent:∀x∈met,∃w,(w,x)∈dn++todo
 srt:(dn++todo).Pairwise fun a b=>a.1.length<=b.1.length
 nxt:∀h r,todo=h::r->∀x∈todo,x.1.length<=h.1.length+1
 cls:∀x∈dn,is x.2=false/\(x.1.length<most->∀i u,i<N->st i x.2=some u->∃w,(w,u)∈dn++todo/\w.length<=x.1.length+1)
 org:([],t0)∈dn++todo

theorem ER{w:List Nat}{t:T}:∀{r:List Nat} {met:List T} {todo:List (List Nat×T)},∃more,(rD st w t r met todo).2=todo++more/\(∀x∈more,x.1.length=w.length+1)/\(∀x∈(rD st w t r met todo).1,x∈met\/∃v,(v,x)∈more)/\(∀i∈r,∀u,st i t=some u->u=t\/u∈met\/∃v,(v,u)∈more)
 | [],met,todo=>⟨[],by simp[rD],by simp,fun x hx=>.inl hx,by simp⟩
 | i::r,met,todo=>by
  simp only[rD];split
  ·rename_i hn;obtain⟨more,h1,h2,h3,h4⟩:=ER (w:=w) (t:=t) (r:=r) (met:=met) (todo:=todo);refine⟨more,h1,h2,h3,fun j hj u hu=>?_⟩;rcases bU.1 hj with rfl | hj
   ·rw[hn]at hu;cases hu
   exact h4 j hj u hu
  rename_i v hv;split
  ·rename_i hc;obtain⟨more,h1,h2,h3,h4⟩:=ER (w:=w) (t:=t) (r:=r) (met:=met) (todo:=todo);refine⟨more,h1,h2,h3,fun j hj u hu=>?_⟩;rcases bU.1 hj with rfl | hj
   ·rw[hv]at hu;cases hu;exact hc.imp id .inl
   exact h4 j hj u hu
  obtain⟨more,h1,h2,h3,h4⟩:=ER (w:=w) (t:=t) (r:=r) (met:=met++[v]) (todo:=todo++[(w++[i],v)]);refine⟨(w++[i],v)::more,by rw[h1];simp,fun x hx=>?_,fun x hx=>?_,fun j hj u hu=>?_⟩
  ·rcases bU.1 hx with rfl | hx
   ·simp
   exact h2 x hx
  ·rcases h3 x hx with hx | ⟨y,hy⟩
   ·rcases dh.1 hx with hx | hx
    ·exact .inl hx
    rw[dP.1 hx];exact .inr ⟨_,bT ..⟩
   exact .inr ⟨y,dH _ hy⟩
  rcases bU.1 hj with rfl | hj
  ·rw[hv]at hu;cases hu;exact .inr (.inr ⟨_,bT ..⟩)
  rcases h4 j hj u hu with h | h | ⟨y,hy⟩
  ·exact .inl h
  ·rcases dh.1 h with h | h
   ·exact .inr (.inl h)
   rw[dP.1 h];exact .inr (.inr ⟨_,bT ..⟩)
  exact .inr (.inr ⟨y,dH _ hy⟩)

theorem aql.ajC{t0:T}{met:List T}{dn todo:List (List Nat×T)}(H:aql st N most is t0 met dn todo){L:Nat}(hL:L<=most)(hd:∀x∈dn++todo,x.1.length<=L->x∈dn):∀{l:List Nat} {t e:T} {w:List Nat},goG st N t l e->(w,t)∈dn++todo->w.length+l.length<=L->is e=false
 | [],t,e,w,h,hw,hl=>by
  cases h
  exact(H.cls _ (hd _ hw (by simpa using hl))).1
 | i::l,t,e,w,⟨hi,u,hu,h⟩,hw,hl=>by
  simp only[gK]at hl;have Yu:=hd _ hw (by simp only;omega);obtain⟨w',h1,h2⟩:=(H.cls _ Yu).2 (by simp only;omega) i u hi hu;simp only at h2;exact H.ajC hL hd h h1 aj
theorem O_{t0:T}{l:List Nat}{e:T}(hl:goG st N t0 l e)(he:is e=true)(hlm:l.length<=most)(hN:N<=4):∀{n:Nat} {met:List T} {dn todo:List (List Nat×T)},aql st N most is t0 met dn todo->(∀x∈todo,x.1.length<=most)->V8 most todo<n->∃w,Ld st N most is n met todo=some w/\w.length<=l.length
 | 0,_,_,_,_,_,h=>by cases h
 | n+1,met,dn,[],H,_,_=>by
  have:=H.ajC hlm (fun x hx _=>by simpa using hx) hl H.org (by simp);rw[this]at he;cases he
 | n+1,met,dn,(w,t)::todo,H,hm,hs=>by
  have ajE:=H.srt;rw[List.pairwise_append,List.pairwise_cons]at ajE;have hw:=hm _ (bT ..);simp only at hw;simp only[Ld];split
  ·rename_i hi;refine⟨w,O,?_⟩;rcases bQ l.length w.length with fK | hle
   ·have:=H.ajC hlm (fun x hx hxl=>?_) hl H.org (by simp)
    ·rw[this]at he;cases he
    rcases dh.1 hx with hx | hx
    ·exact hx
    rcases bU.1 hx with rfl | hx
    ·simp only at hxl;omega
    have:=ajE.2.1.1 x hx;simp only at this;omega
   exact hle
  rename_i hi;have hi:is t=false:=by simpa using hi
  split
  ·rename_i hwm;refine O_ hl he hlm hN (dn:=dn++[(w,t)]) ⟨fun x hx=>?_,?_,fun h r e x hx=>?_,fun x hx=>?_,?_⟩ (fun x hx=>hm x (dH _ hx)) (Nat.lt_of_lt_of_le abn (Nat.le_of_lt_succ hs))
   ·obtain⟨v,hv⟩:=H.ent x hx;exact⟨v,by simpa using hv⟩
   ·simpa using H.srt
   ·subst e;have h1:=H.nxt _ _ O x (dH _ hx);have h2:=ajE.2.1.1 h (bT ..);simp only at h1 h2;omega
   ·rcases dh.1 hx with hx | hx
    ·refine⟨(H.cls x hx).1,fun fK i u hi hu=>?_⟩;obtain⟨v,h1,h2⟩:=(H.cls x hx).2 fK i u hi hu;exact⟨v,by simpa using h1,h2⟩
    rw[dP.1 hx];exact⟨hi,fun fK=>by simp only at fK;omega⟩
   simpa using H.org
  rename_i hwm;obtain⟨more,h1,h2,h3,h4⟩:=ER (st:=st) (w:=w) (t:=t) (r:=List.range N) (met:=met) (todo:=todo);have oH:=afc (st:=st) (most:=most) (t:=t) (met:=met) (todo:=todo) hN (show w.length<most by omega);have hlen:=DI (st:=st) (n:=most) (t:=t) (show w.length+1<=most by omega) (r:=List.range N) (met:=met) (todo:=todo) (fun x hx=>hm x (dH _ hx));have up:∀x∈todo,x.1.length<=w.length+1:=fun x hx=>H.nxt _ _ O x (dH _ hx);have lo:∀x∈todo,w.length<=x.1.length:=fun x hx=>ajE.2.1.1 x hx
  have old:∀{x},x∈dn++(w,t)::todo->x∈dn++[(w,t)]++(todo++more):=fun{x} hx=>by
   simp only[dh,bU,dP]at hx⊢;rcases hx with h | h | h
   ·exact .inl (.inl h)
   ·exact .inl (.inr (.inl h))
   exact .inr (.inl h)
  have lens:∀x∈dn++(w,t)::todo,x.1.length<=w.length+1:=fun x hx=>by
   rcases dh.1 hx with hx | hx
   ·have:=ajE.2.2 x hx _ (bT ..);simp only at this;omega
   rcases bU.1 hx with rfl | hx
   ·simp only;omega
   exact up x hx
  refine O_ hl he hlm hN (dn:=dn++[(w,t)]) ?_ hlen (Nat.lt_of_lt_of_le oH (Nat.le_of_lt_succ hs));rw[h1];refine⟨fun x hx=>?_,?_,fun h r e x hx=>?_,fun x hx=>?_,old H.org⟩
  ·rcases h3 x hx with hx | ⟨v,hv⟩
   ·obtain⟨v,hv⟩:=H.ent x hx;exact⟨v,old hv⟩
   exact⟨v,bZ _ (bZ _ hv)⟩
  ·have e1:dn++[(w,t)]++(todo++more)=(dn++(w,t)::todo)++more:=by simp
   rw[e1,List.pairwise_append];refine⟨H.srt,?_,fun a ha b hb=>?_⟩
   ·refine List.Pairwise.imp_of_mem (R:=fun _ _=>True) (fun ha hb _=>?_) (List.pairwise_of_forall fun _ _=>trivial);rw[h2 _ ha,h2 _ hb];exact Nat.le_refl _
   rw[h2 b hb];exact lens a ha
  ·have hh:w.length<=h.1.length:=by
    have:h∈todo++more:=by rw[e];exact bT ..
    rcases dh.1 this with h | h
    ·exact lo _ h
    rw[h2 _ h];omega
   rcases dh.1 hx with hx | hx
   ·have:=up x hx;omega
   rw[h2 x hx];omega
  rcases dh.1 hx with hx | hx
  ·refine⟨(H.cls x hx).1,fun fK i u hi hu=>?_⟩;obtain⟨v,h1,h2⟩:=(H.cls x hx).2 fK i u hi hu;exact⟨v,old h1,h2⟩
  rw[dP.1 hx];refine⟨hi,fun _ i u hiN hu=>?_⟩;rcases h4 i (List.mem_range.2 hiN) u hu with rfl | h | ⟨v,hv⟩
  ·exact⟨w,old (bZ _ (bT ..)),by simp only;omega⟩
  ·obtain⟨v,hv⟩:=H.ent u h;exact⟨v,old hv,lens _ hv⟩
  exact⟨v,bZ _ (bZ _ hv),by rw[h2 _ hv];exact Nat.le_refl _⟩
theorem UJ{t0:T}{n:Nat}(hN:N<=4)(hn:5 ^ (most+1)<n):(∀w,Ld st N most is n [t0] [([],t0)]=some w->w.length<=most/\∃e,goG st N t0 w e/\is e=true)/\∀l e,goG st N t0 l e->is e=true->l.length<=most->∃w,Ld st N most is n [t0] [([],t0)]=some w/\w.length<=l.length:=
 ⟨fun w h=>Zl (fun x hx=>by rw[dP.1 hx];exact⟨rfl,Nat.zero_le _⟩) h,fun l e hl he hlm=>O_ hl he hlm hN (dn:=[]) ⟨fun x hx=>⟨[],by rw[dP.1 hx];exact dP.2 rfl⟩,List.pairwise_singleton ..,fun h r e x hx=>by cases e;rw[dP.1 hx];exact Nat.zero_le _,(fun x hx=>by cases hx),dP.2 rfl⟩ (fun x hx=>by rw[dP.1 hx];exact Nat.zero_le _) (by simp only[V8,dQ,List.map_nil,List.sum_cons,List.sum_nil,List.length_nil];omega)⟩
end
set_option linter.unusedVariables false
structure Ag where
 (ne no ta le co:Int)
 deriving DecidableEq
def Ag.row(a:Ag):List Value:=[I a.ne,I a.no,I a.ta,I a.le,I a.co]
abbrev Ag.val(a:Ag):Value:=.agg #[I a.ne,I a.no,I a.ta,I a.le,I a.co]
instance:Rw Ag.row 5:=⟨fun _=>rfl,fun _=>rfl⟩
def DJ(a:Ag):Int:=if outs a.ne 0 63\/outs a.no 0 63\/outs a.ta 0 63\/outs a.le 0 63 then 1 else if bits .and .i64 a.ne a.no≠0 then 9 else if outs a.co 1 9 then 1 else 0
def FH:List Ag->Int
 | []=>0
 | a::r=>if DJ a=0 then FH r else DJ a
def JC(QV:List Ag):Int:=if 4<QV.length then 6 else FH QV
theorem Xv:∀{QV:List Ag},FH QV=0->∀a∈QV,DJ a=0
 | [],_,p,h=>by cases h
 | b::QV,h,p,hp=>by
  simp only[FH]at h;split at h
  ·rename_i h1;rcases bU.1 hp with rfl | hp
   ·exact h1
   exact Xv h p hp
  rename_i h1;exact absurd h h1
structure Iq(QV:List Ag):Prop where
 len:QV.length<=4
 ag:∀a∈QV,(0<=a.ne/\a.ne<=63)/\(0<=a.no/\a.no<=63)/\(0<=a.ta/\a.ta<=63)/\(0<=a.le/\a.le<=63)/\1<=a.co/\a.co<=9
variable{QV:List Ag}
theorem Iq.xE(h:JC QV=0):Iq QV:=by
 unfold JC at h;split at h
 ·cases h
 refine⟨aj,fun a ha=>?_⟩;have h1:=Xv h a ha;unfold DJ at h1;split at h1
 ·cases h1
 split at h1
 ·cases h1
 split at h1
 ·cases h1
 simp only[outs]at*;omega

def Zm(a:Ag)(f:Nat):Bool:=decide (bits .andNot .u8 (IntKind.u8.wrap a.ne) f=0)&&decide (bits .and .u8 (IntKind.u8.wrap a.no) f=0)
def agD(a:Ag)(f:Nat):Int:=bits .or .u8 (bits .andNot .u8 f (IntKind.u8.wrap a.ta)) (IntKind.u8.wrap a.le)
def V9(a:Ag)(f:Nat):Nat:=(agD a f).toNat
def amz(f:Nat)(ps:Nat):Bool:=decide (bits .andNot .u8 f ps=0)

theorem ajF{n:Int}(h:0<=n/\n<=63):IntKind.u8.wrap n=n:=by
 have e:IntKind.u8.wrap n=n % 256:=rfl;omega
def anT(a b:Nat):Bool:=decide (0<=bits .andNot .u8 (a:Int) (b:Int))&&decide (bits .andNot .u8 (a:Int) (b:Int)<64)
theorem amA:((List.range 64).all fun a=>(List.range 64).all fun b=>anT a b)=true:=by kernel_rfl
theorem atV{a:Nat}(ha:a<64)(hb:b<64):0<=bits .andNot .u8 (a:Int) (b:Int)/\bits .andNot .u8 (a:Int) (b:Int)<64:=by
 have h:=amA;rw[List.all_eq_true]at h;have h:=h a (List.mem_range.2 ha);rw[List.all_eq_true]at h;have h:=h b (List.mem_range.2 hb);simpa only[anT,Bool.and_eq_true,decide_eq_true_eq]using h
def atW(a b:Nat):Bool:=decide (0<=bits .or .u8 (a:Int) (b:Int))&&decide (bits .or .u8 (a:Int) (b:Int)<64)
theorem ajG:((List.range 64).all fun a=>(List.range 64).all fun b=>atW a b)=true:=by kernel_rfl
theorem atX{a:Nat}(ha:a<64)(hb:b<64):0<=bits .or .u8 (a:Int) (b:Int)/\bits .or .u8 (a:Int) (b:Int)<64:=by
 have h:=ajG;rw[List.all_eq_true]at h;have h:=h a (List.mem_range.2 ha);rw[List.all_eq_true]at h;have h:=h b (List.mem_range.2 hb);simpa only[atW,Bool.and_eq_true,decide_eq_true_eq]using h
theorem amB{a:Ag}{f:Nat}(hf:f<64)(ht:0<=a.ta/\a.ta<=63)(hl:0<=a.le/\a.le<=63):agD a f=(V9 a f:Int)/\V9 a f<64:=by
 unfold V9 agD;rw[ajF ht,ajF hl];obtain⟨t,et⟩:=Int.eq_ofNat_of_zero_le ht.1;obtain⟨l,el⟩:=Int.eq_ofNat_of_zero_le hl.1;rw[et,el];have h1:=atV (a:=f) (b:=t) hf aj;obtain⟨u,eu⟩:=Int.eq_ofNat_of_zero_le h1.1;rw[eu];have h2:=atX (a:=u) (b:=l) aj aj;omega

structure Tm where
 (a b c:Nat)
 deriving DecidableEq
def Tm.ns(t:Tm):List Nat:=[t.a,t.b,t.c]
def Tm.at(t:Tm)(k:Nat):Nat:=t.ns.getD k 0
def Tm.up(t:Tm)(k v:Nat):Tm:=match k with
 | 0=>⟨v,t.b,t.c⟩
 | 1=>⟨t.a,v,t.c⟩
 | 2=>⟨t.a,t.b,v⟩
 | _=>t
def Tm.lt(t:Tm):Prop:=t.a<64/\t.b<64/\t.c<64
theorem Tm.aog{t:Tm}(h:t.lt)(k:Nat):t.at k<64:=by
 obtain⟨a,b,c⟩:=t;obtain⟨h1,h2,h3⟩:=h;simp only at h1 h2 h3
 match k with
 | 0=>exact h1
 | 1=>exact h2
 | 2=>exact h3
 | _+3=>exact Nat.zero_lt_succ _
theorem Tm.atY{t:Tm}(h:t.lt){k v:Nat}(hv:v<64):(t.up k v).lt:=by
 obtain⟨h1,h2,h3⟩:=h
 match k with
 | 0=>exact⟨hv,h2,h3⟩
 | 1=>exact⟨h1,hv,h3⟩
 | 2=>exact⟨h1,h2,hv⟩
 | _+3=>exact⟨h1,h2,h3⟩
def adJ(a:Ag)(t:Tm)(m:Nat):Bool:=(List.range m).all fun k=>Zm a (t.at k)
def Zn(a:Ag)(t n:Tm)(m:Nat):Tm:=(List.range m).foldl (fun n k=>n.up k (V9 a (t.at k))) n
theorem agE{a:Ag}{t:Tm}:adJ a t (m+1)=(adJ a t m&&Zm a (t.at m)):=by simp[adJ,List.range_succ]
theorem Xw{a:Ag}{t n:Tm}:Zn a t n (m+1)=(Zn a t n m).up m (V9 a (t.at m)):=by simp[Zn,List.range_succ]
theorem afd{a:Ag}{t n:Tm}(hn:n.lt)(h:∀f,f<64->V9 a f<64)(ht:t.lt):∀{m:Nat},(Zn a t n m).lt
 | 0=>hn
 | m+1=>by rw[Xw];exact Tm.atY (afd hn h ht) (h _ (Tm.aog ht _))
def stT(QV:List Ag)(m:Nat)(i:Nat)(t:Tm):Option Tm:=match QV[i]? with
 | some a=>if adJ a t m then some (Zn a t t m)else none
 | none=>none
def isT(ps m:Nat)(t:Tm):Bool:=(t.ns.take m).all fun f=>amz f ps
def adK(ks:List Int):Tm:=⟨(ks.getD 0 0).toNat,(ks.getD 1 0).toNat,(ks.getD 2 0).toNat⟩
def aoh(QV:List Ag)(ks:List Int)(ps:Int):Option (List Nat):=Ld (stT QV ks.length) QV.length 5 (isT ps.toNat ks.length) 15626 [adK ks] [([],adK ks)]
def nH(QV:List Ag)(ks:List Int)(ps:Int):Option (List Int):=(aoh QV ks ps).map zs
theorem DK{ks:List Int}{ps:Int}{l:List Int}(hN:QV.length<=4)(h:nH QV ks ps=some l):l.length<=5:=by
 unfold nH at h;rw[jR]at h;obtain⟨w,h1,rfl⟩:=h;rw[rZ];exact((UJ hN dF).1 w h1).1
section
variable{x:Cx}{Q:fO}{ρ:Env}{ds:List Deferred}{F:ah}{ops:Array Oper}{i d:Nat}{rest:List Nat}{ty:TypeId}{pos:String}{bW:Array Edge}{g:Option (Nat×Bool)}
theorem V_{fr:Frame}{cs:List Frame}{s:Sem Next}{w:World}(r:s.runT P w #[]=(.ok .recover w, #[]))(hk:(fr.kind==CallKind.early)=false)(hr:fr.roundOf=none)(ht:tryRecover fr cs=none):
  stepG.apply P true fr cs none s w= .go (G (fr.finish .nilIface) cs) w #[]:=by
 unfold stepG.apply;simp only[r,hk,if_true,eU,if_false,hr,ht];rw[He]
 rfl
theorem aA.recover{ats:Array TypeId}(ho:dS ops.toList i=some ⟨some d,.call ⟨.builtin .recover, #[],ats⟩,ty,pos,bW,g⟩)(hw:gY ops ρ ⟨some d,.call ⟨.builtin .recover, #[],ats⟩,ty,pos,bW,g⟩)(FK:x.ro=none)(hd:Nat.blt d x.n=true)(H:aA x ops rest Q ((d,.nilIface)::ρ) ds F):aA x ops (i::rest) Q ρ ds F:=by
 intro b k cs Stop tmps hk M h1 h0 h2 h3 h4 h5 hc;have fA:(b.kind==CallKind.early)=false:=by simpa using h2.1
 have mM:=aK ho;have hf:=fQ (b:=b) (t:=tmps) (ds:=ds) (k:=k) (cs:=cs) (rest:=rest) mM .nilIface;refine .idle (g':=G (((dR b tmps ds (.inRegion ops (i::rest)::k))).finish .nilIface) cs) O (fun w=>?_) ?_
 ·have e:stepG x.P x.main.b (G (dR b tmps ds (.inRegion ops (i::rest)::k)) cs) w=stepG.apply x.P true (dR b tmps ds (.inRegion ops (i::rest)::k)) cs none (execOp (dR b tmps ds (.inRegion ops (i::rest)::k)).eval ⟨some d,.call ⟨.builtin .recover, #[],ats⟩,ty,pos,bW,g⟩) w:=by
   have hr:b.roundOf=none:=h0.trans FK;simp only[Conc.G,stepG,stepG.exec,stepG.oper,Frame.oper?,dR,mM,hw.wanted h3,hr,Option.map_some,Option.getD_some,if_true]
  rw[e];refine V_ (fr:=dR b tmps ds (.inRegion ops (i::rest)::k)) ?_ fA (h0.trans FK) (h2.2 _ O)
  rfl
 rw[hf];exact H b k cs Stop _ hk M h1 h0 h2 (h3.put (h4▸Nat.le_of_ble_eq_true hd) _) (by simpa using h4) h5 hc
end
theorem yta{x:Cx}{S:ah->Prop}{o:Oper}{a b:TypeId}{ok:Bool}{u:Value}(hp:V3 x.P (Instr.typeAssert u a b ok)=some v)(ho:o.op= .typeAssert y a b ok)(hy:ev ρ y=some u):Yv x S ρ o v:=fun e he F hF h' hE=>by
 simp only[execOp,ho,he y _ hy];exact cu (vU hp ⟨O,O⟩)
abbrev aG(b:Nat):Value:=.pointer (some ⟨b,0,none⟩)
theorem Qa(main:aN)(h:Hp)(n lo hi:Int):Pu aV main OU #[I n,I lo,I hi] h (.bool (decide (outs n lo hi))):=by
 refine bG.bH func170 [(0,I n),(1,I lo),(2,I hi)] ?_;refine gZ ?_;refine aA.ask (fun YW=>?_) (fun YW=>?_)
 ·refine jk ?_;refine lQ ?_
  first | exact congrArg Value.bool (decide_eq_true (Or.inl ‹_›)).symm | exact congrArg Value.bool (decide_eq_decide.2 ⟨.inr,fun h=>h.resolve_left ‹_›⟩)
 refine jk ?_;refine lQ ?_
 first | exact congrArg Value.bool (decide_eq_true (Or.inl ‹_›)).symm | exact congrArg Value.bool (decide_eq_decide.2 ⟨.inr,fun h=>h.resolve_left ‹_›⟩)

def notM(n:Int):Bool:=decide (outs n 0 63)
theorem afe(main:aN)(h:Hp)(l:List Int)(v:Value)(hf:Sl h bY v l)(hl:l.length<=1000):Pu aV main YT #[v] h (.bool (!l.any notM)):=by
 obtain⟨a,cap,rfl⟩:=hf.aU;refine bG.bH func169 [(0,.slice a l.length cap)] ?_;refine oz ?_;refine W.loop (σ:=Nat) (fun k=>k<=l.length/\l.any notM=(l.drop k).any notM) (fun k=>[(7,I k),(6,I l.length),(5,.slice a l.length cap)]) (fun _=>[]) (fun k=>l.length-k) 0 ⟨Nat.zero_le _,O⟩ iw .refl ?_;rintro k ⟨hk,hd⟩;refine kJ ?_;refine W.aJ O (fun c8=>?_) (fun c8=>?_)
 ·obtain⟨p,hp,yI⟩:=has (show k<l.length by omega);rw[yI,List.any_cons]at hd;obtain⟨b,off,c,E,fz,rfl,hb,hx,hy,hz⟩:=hf.at hp;have Aq:c[off+k*1]? =some (I p):=hz 0 dF;clear hx hz;refine CW ?_;refine cp (fun h' hE hL=>Qa _ h' _ _ _) ?_;refine qj ?_;refine W.aJ O (fun OZ=>?_) (fun OZ=>?_)
  ·refine gZ ?_;refine lQ ?_;have e:notM p=true:=decide_eq_true OZ;show Value.bool _=Value.bool _;rw[hd,e];rfl
  refine jk ?_;have e:notM p=false:=decide_eq_false OZ;rw[e,Bool.false_or]at hd;exact⟨O,k+1,⟨aj,hd⟩,aj,iw,qE⟩
 obtain rfl:k=l.length:=by omega
 refine gZ ?_;refine lQ ?_;show Value.bool _=Value.bool _;rw[hd];simp

theorem Xx(main:aN)(h:Hp)(gs:List Ag)(va:Value)(hf:Sl h Ag.row va gs):Pu aV main H7 #[va] h (I (JC gs)):=by
 obtain⟨a,cap,rfl⟩:=hf.aU;refine bG.bH func119 [(0,.slice a gs.length cap)] ?_;refine iC ?_;refine W.aJ O (fun c7=>?_) (fun c7=>?_)
 ·refine lg ?_;refine lQ ?_;show I _=I _;congr 1;simp only[JC];rw[if_pos aj]
 refine gZ ?_;refine W.loop (σ:=Nat) (fun k=>k<=gs.length/\FH gs=FH (gs.drop k)) (fun k=>[(10,I k),(9,I gs.length),(8,.slice a gs.length cap)]) (fun _=>[]) (fun k=>gs.length-k) 0 ⟨Nat.zero_le _,O⟩ iw .refl ?_;rintro k ⟨hk,hd⟩;refine kJ ?_;refine W.aJ O (fun ZI=>?_) (fun ZI=>?_)
 ·obtain⟨p,hp,yI⟩:=has (show k<gs.length by omega);rw[yI]at hd;have hd:FH gs=if DJ p=0 then FH (gs.drop (k+1))else DJ p:=hd
  obtain⟨b,off,c,E,fz,rfl,hb,hx,hy,hz⟩:=hf.at hp;have Aq:c.extract (off+k*5) (off+k*5+5)= #[I p.ne,I p.no,I p.ta,I p.le,I p.co]:=hx;clear hx hz;refine kR ?_;refine aA.new (fun mW=>?_);refine CW ?_;refine aA.zZ (cs:= #[I p.ne,I p.no,I p.ta,I p.le]) (fun lX=>?_) O;refine cp (fun h' hE hL=>afe _ h' [p.ne,p.no,p.ta,p.le] _ (Sl.mk (hL lX _ (.head _)) O (Part.all [I p.ne,I p.no,I p.ta,I p.le])) (Nat.le_of_ble_eq_true O)) ?_;refine gI ?_;refine W.cond O (fun WW=>?_) (fun WW=>?_)
  ·have h1:outs p.ne 0 63\/outs p.no 0 63\/outs p.ta 0 63\/outs p.le 0 63:=by simpa[notM]using WW
   refine iC ?_;refine lQ ?_;have hc:DJ p=1:=by unfold DJ;rw[if_pos h1]
   show I _=I _;congr 1;simp only[JC];rw[if_neg aj,hd,hc];rfl
  have h1:¬(outs p.ne 0 63\/outs p.no 0 63\/outs p.ta 0 63\/outs p.le 0 63):=by simpa[notM]using WW
  refine gZ ?_;refine W.aJ O (fun Rf=>?_) (fun Rf=>?_)
  ·refine iC ?_;refine lQ ?_;have hc:DJ p=9:=by unfold DJ;rw[if_neg h1,if_pos Rf]
   show I _=I _;congr 1;simp only[JC];rw[if_neg aj,hd,hc];rfl
  refine lF ?_;refine cp (fun h' hE hL=>Qa _ h' _ _ _) ?_;refine d_ ?_;refine W.aJ O (fun c33=>?_) (fun c33=>?_)
  ·refine iC ?_;refine lQ ?_;have hc:DJ p=1:=by unfold DJ;rw[if_neg h1,if_neg Rf,if_pos c33]
   show I _=I _;congr 1;simp only[JC];rw[if_neg aj,hd,hc];rfl
  refine kR ?_;have hc:DJ p=0:=by unfold DJ;rw[if_neg h1,if_neg Rf,if_neg c33]
  rw[hc,if_pos O]at hd;exact⟨O,k+1,⟨aj,hd⟩,aj,iw,qE⟩
 obtain rfl:k=gs.length:=by omega
 have hz:FH gs=0:=by rw[hd];simp[FH]
 refine gZ ?_;refine lQ ?_;show I _=I _;congr 1;simp only[JC];rw[if_neg aj,hz]

theorem aqm(main:aN)(h:Hp)(a:Ag)(f:Nat):Pu aV main KN #[a.val,U8 f] h (.bool (Zm a f)):=by
 refine bG.bH func190 [(0,a.val),(1,U8 f)] ?_;refine d_ ?_;refine aA.box (fun oJ=>?_);refine oz ?_;refine aA.ask (fun KU=>?_) (fun KU=>?_)
 ·refine gI ?_;refine oq (GL O O) O (aI O O O) O O ?_;refine jk ?_;refine lQ ?_
  first | (show Value.bool _=Value.bool _;congr 1;unfold Zm;rw[decide_eq_true KU,Bool.true_and]) | (show Value.bool _=Value.bool _;congr 1;unfold Zm;rw[decide_eq_false KU,Bool.false_and])
 refine iC ?_;refine lQ ?_
 first | (show Value.bool _=Value.bool _;congr 1;unfold Zm;rw[decide_eq_true KU,Bool.true_and]) | (show Value.bool _=Value.bool _;congr 1;unfold Zm;rw[decide_eq_false KU,Bool.false_and])
theorem aqn(main:aN)(h:Hp)(a:Ag)(f:Nat):Pu aV main zq #[a.val,U8 f] h (.int .u8 (agD a f)):=by
 refine bG.bH func191 [(0,a.val),(1,U8 f)] ?_;refine d_ ?_;refine aA.box (fun oJ=>?_);refine asX ?_;exact lQ O
theorem ajH(main:aN)(h:Hp)(f p:Nat):Pu aV main F9 #[U8 f,U8 p] h (.bool (amz f p)):=by
 refine bG.bH func152 [(0,U8 f),(1,U8 p)] ?_;refine CW ?_;exact lQ O
def NU(n:Nat):Value:=.int .u8 (2 ^ n-1)
def aoi(n k:Nat):Bool:=decide (k<n)==decide (bits .and .u8 (((2:Int) ^ n-1).fdiv (2 ^ (min (k:Int).toNat IntKind.u8.bits))) 1=1)
theorem agG:((List.range 5).all fun n=>(List.range 4).all fun k=>aoi n k)=true:=by kernel_rfl
theorem amC(main:aN)(h:Hp)(n k:Nat)(hn:n<=4)(hk:k<n):Pu aV main OV #[NU n,I k] h (.bool true):=by
 unfold NU;refine bG.bH func189 [(0,.int .u8 (2 ^ n-1)),(1,I k)] ?_;refine kR ?_;refine b_ (AB O O O aj) O ?_;refine kJ ?_;refine lQ ?_;have h:=agG;rw[List.all_eq_true]at h;have h:=h n (List.mem_range.2 aj);rw[List.all_eq_true]at h;have h:=h k (List.mem_range.2 aj);simp only[aoi,beq_iff_eq]at h;show Value.bool _=Value.bool _;rw[<-h,decide_eq_true hk]
def atZ(n:Nat):Bool:=bits .and .u8 (n:Int) 63==(n:Int)
theorem ajI:((List.range 64).all fun n=>atZ n)=true:=by kernel_rfl
theorem aff(main:aN)(h:Hp)(n:Int)(hn:0<=n/\n<=63):Pu aV main VR #[I n] h (U8 n.toNat):=by
 refine bG.bH func147 [(0,I n)] ?_;have xJ:notM n=false:=decide_eq_false (by simp only[outs];omega);refine kR ?_;refine aA.zZ (cs:= #[I n]) (fun mW=>?_) O;refine cp (fun h' hE hL=>afe _ h' [n] _ (Sl.mk (hL mW _ (.head _)) O (Part.all [I n])) (Nat.le_of_ble_eq_true O)) ?_;refine d_ ?_;refine W.cond O (fun c6=>?_) (fun c6=>?_)
 ·simp[xJ]at c6
 refine gZ ?_;refine lQ ?_;have h:=ajI;rw[List.all_eq_true]at h;have h:=h n.toNat (List.mem_range.2 aj);simp only[atZ,beq_iff_eq,Int.toNat_of_nonneg hn.1]at h;show Value.int .u8 _=Value.int .u8 _;rw[ajF hn,h,Int.toNat_of_nonneg hn.1]
theorem Xy(main:aN)(h:Hp)(b:Nat):QN aV main QA #[aG b] h [] (fun A=>eH A):=by
 refine QN.gX func145 O (by show 1<=13;decide) [(0,aG b)] ⟨O,trivial⟩ ?_;refine d_ ?_;refine aA.recover O wn O O ?_;refine b_ (yta (v:=.tuple #[I 0,.bool false]) aB O O) O ?_;refine gZ ?_;refine W.iq ?_;refine W.skip ?_;exact iQ (vs:=[]) .nil
theorem agH(main:aN)(h:Hp)(gs:List Ag)(va:Value)(hf:Sl h Ag.row va gs)(zU:JC gs=0):bG aV main Ud #[va] h [] (fun v A=>∃vs S,v= .agg #[vs,NU gs.length]/\Os zB Ag.row vs gs S/\Sb S A):=by
 obtain⟨a,cap,rfl⟩:=hf.aU;have uU:=Iq.xE zU;have Zo:=uU.len;refine bG.bH func146 [(0,.slice a gs.length cap)] ?_;refine d_ ?_;refine aA.new (fun oJ=>?_);refine kJ ?_;refine cp (fun h' hE hL=>Xx _ h' gs _ (hf.ext hE)) ?_;refine jk ?_;refine W.aJ O (fun Xe=>?_) (fun Xe=>?_)
 ·exact absurd zU Xe
 refine lg ?_;refine b_ (JK O O O aj) O ?_;refine Gh (Ou rfl rfl rfl) (u:=NU gs.length) (by match gs.length,Zo with | 0,_=>rfl | 1,_=>rfl | 2,_=>rfl | 3,_=>rfl | 4,_=>rfl | n+5,h=>exact absurd h aj) rfl wn rfl rfl ?_;refine zT ?_;refine aA.new (fun mW=>?_);refine gZ ?_;refine W.loop (σ:=Nat×Value×ah) (fun s=>s.1<=gs.length/\Os zB Ag.row s.2.1 (gs.take s.1) s.2.2) (fun s=>[(20,I s.1),(19,I gs.length),(18,.slice a gs.length cap),(4,aG mW),(2,aG oJ)]) (fun s=>(mW,.cells #[s.2.1,NU gs.length] jV (0,0))::(oJ,.cells #[.slice none 0 0,.int .u8 0] jV (0,0))::s.2.2) (fun s=>gs.length-s.1) (0,.slice none 0 0,[]) ⟨Nat.zero_le _,.nil .nil⟩ iw .refl ?_;rintro⟨k,vs,S⟩ ⟨hk,hO⟩;simp only at hk hO⊢;refine kJ ?_;refine W.aJ O (fun Oh=>?_) (fun Oh=>?_)
 ·obtain⟨as0,amD,rfl⟩:=hO.aU;obtain⟨p,hp,yI⟩:=has (show k<gs.length by omega);obtain⟨b,off,c,E,fz,rfl,hb,hx,hy,hz⟩:=hf.at hp;have Aq:c.extract (off+k*5) (off+k*5+5)= #[I p.ne,I p.no,I p.ta,I p.le,I p.co]:=hx;clear hx hz;have Gt:gs.take (k+1)=gs.take k++[p]:=by rw[List.take_add_one,hp];rfl
  refine kR ?_;refine aA.new (fun mX=>?_);refine lg ?_;refine b_ (dw (cs:= #[I p.ne,I p.no,I p.ta,I p.le,I p.co]) O O aB) O ?_;refine aA.zZ (cs:= #[I p.ne,I p.no,I p.ta,I p.le,I p.co]) (fun amE=>?_) O (hf:=by kernel_rfl);refine oe O wn O O (bV (row:=Ag.row) (l':=[p]) O O O hO (.tail (.tail (.tail (.tail .all)))) (fun h2 _ hl=>Sl.mk (hl amE _ (.head _)) O (Part.all (Ag.row p))) (by simp;omega) dF O (fun v' S' qm=>?_));obtain⟨as1,at1,rfl⟩:=qm.aU;refine d_ ?_;refine aA.nil<|iE<|fH<|W.region rfl ?_;refine gI ?_;exact⟨O,(k+1,_,S'),⟨by simp only;omega,by rw[Gt];exact qm⟩,by simp only;omega,iw,.skip O (.skip O .refl)⟩
 obtain rfl:k=gs.length:=by omega
 rw[List.take_length]at hO;obtain⟨as0,amD,rfl⟩:=hO.aU;refine iC ?_;exact AY (vs:=[.agg #[.slice as0 gs.length amD,NU gs.length]]) ⟨_,S,O,hO,.skip O (.skip O .refl)⟩
set_option linter.unusedVariables false
def NV{α β:Type}(R:α->β->Prop):List α->List β->Prop
 | [],[]=>True
 | a::l,b::m=>R a b/\NV R l m
 | _,_=>False
theorem NV.mono{α β:Type}{R R':α->β->Prop}(h:∀a b,R a b->R' a b):∀{l:List α} {m:List β},NV R l m->NV R' l m
 | [],[],_=>trivial
 | a::l,b::m,⟨h1,h2⟩=>⟨h _ _ h1,NV.mono h h2⟩
 | [],_::_,h=>h.elim
 | _::_,[],h=>h.elim
theorem NV.snoc{α β:Type}{R:α->β->Prop}{a:α}{b:β}(hr:R a b):∀{l:List α} {m:List β},NV R l m->NV R (l++[a]) (m++[b])
 | [],[],_=>⟨hr,trivial⟩
 | x::l,y::m,⟨h1,h2⟩=>⟨h1,NV.snoc hr h2⟩
 | [],_::_,h=>h.elim
 | _::_,[],h=>h.elim
theorem NV.len{α β:Type}{R:α->β->Prop}:∀{l:List α} {m:List β},NV R l m->l.length=m.length
 | [],[],_=>rfl
 | x::l,y::m,⟨h1,h2⟩=>by rw[gK,gK,NV.len h2]
 | [],_::_,h=>h.elim
 | _::_,[],h=>h.elim

def RdW(S:ah)(v:Value)(l:List Int):Prop:=eH S/\∀h,je S h->Sl h bY v l
theorem je.left(H:je (A++B) h):je A h:=fun b o hb=>H b o (jm _ hb)
theorem je.right(H:je (A++B) h):je B h:=fun b o hb=>H b o (bZ _ hb)
theorem RdW.left{S S':ah}{l:List Int}(H:RdW S v l)(h':eH S'):RdW (S++S') v l:=⟨H.1.app h',fun h hl=>H.2 h hl.left⟩
theorem Sl.one{α:Type}{row:α->List Value}{w:Nat}[Rw row w]{l:List α}(H:Sl h row v l):one v=true:=by
 obtain⟨a,cap,rfl⟩:=H.aU;rfl
theorem aqo{y:Nat×Obj}:(A++(x::y::R)).Perm (x::y::(A++R)):=List.perm_middle.trans (List.Perm.cons _ List.perm_middle)
theorem Sb.in{S:ah}{y:Nat×Obj}(h:Sb S A):Sb (x::y::(S++R)) (A++(x::y::R)):=.trans (.aT aqo.symm) (.app h .refl)
theorem Zp(main:aN)(h:Hp)(ls:List Lt)(vl:Value)(hf:Sl h Lt.row vl ls):Pu aV main Nc #[vl] h (I (NM ls)):=by
 obtain⟨a,cap,rfl⟩:=hf.aU;refine bG.bH func108 [(0,.slice a ls.length cap)] ?_;refine iC ?_;refine W.aJ O (fun c7=>?_) (fun c7=>?_)
 ·refine lg ?_;refine lQ ?_;show I _=I _;congr 1;simp only[NM];rw[if_pos aj]
 refine gZ ?_;refine W.loop (σ:=Nat) (fun k=>k<=ls.length/\ls.any Dy=(ls.drop k).any Dy) (fun k=>[(10,I k),(9,I ls.length),(8,.slice a ls.length cap)]) (fun _=>[]) (fun k=>ls.length-k) 0 ⟨Nat.zero_le _,O⟩ iw .refl ?_;rintro k ⟨hk,hd⟩;refine kJ ?_;refine W.aJ O (fun ZI=>?_) (fun ZI=>?_)
 ·obtain⟨p,hp,yI⟩:=has (show k<ls.length by omega);rw[yI,List.any_cons]at hd;obtain⟨b,off,c,E,fz,rfl,hb,hx,hy,hz⟩:=hf.at hp;have Aq:c.extract (off+k*2) (off+k*2+2)= #[I p.qu,I p.po]:=hx;clear hx hz;refine kR ?_;refine aA.new (fun mW=>?_);refine lg ?_;refine cp (fun h' hE hL=>pR _ h' _ _ _) ?_;refine zT ?_;refine aA.ask (fun aqf=>?_) (fun aqf=>?_)
  ·refine kJ ?_;refine W.kG ?_;refine gZ ?_;refine lQ ?_
   have hc:Dy p=true:=by
    simp only[Dy,Bool.or_eq_true,decide_eq_true_eq]
    first | exact .inl ‹outs p.qu 0 12› | exact .inr ‹outs p.po 1 9›
   show I _=I _;congr 1;simp only[NM];rw[if_neg aj,hd,hc];rfl
  refine d_ ?_;refine cp (fun h' hE hL=>pR _ h' _ _ _) ?_;refine d_ ?_;refine W.aJ O (fun Oh=>?_) (fun Oh=>?_)
  ·refine gZ ?_;refine lQ ?_
   have hc:Dy p=true:=by
    simp only[Dy,Bool.or_eq_true,decide_eq_true_eq]
    first | exact .inl ‹outs p.qu 0 12› | exact .inr ‹outs p.po 1 9›
   show I _=I _;congr 1;simp only[NM];rw[if_neg aj,hd,hc];rfl
  refine jk ?_
  have hc:Dy p=false:=by
   simp only[Dy,Bool.or_eq_false_iff,decide_eq_false_iff_not];exact⟨‹¬outs p.qu 0 12›,‹¬outs p.po 1 9›⟩
  rw[hc,Bool.false_or]at hd;exact⟨O,k+1,⟨aj,hd⟩,aj,iw,qE⟩
 have:k=ls.length:=by omega
 subst this;refine gZ ?_;refine lQ ?_;show I _=I _;congr 1;simp only[NM];rw[if_neg aj,hd];simp
theorem Wh(main:aN)(h:Hp)(ps:List Pn)(rs:List Int)(vp vr:Value)(hp:Sl h Pn.row vp ps)(hf:Sl h bY vr rs)(h4:ps.length<=4):Pu aV main KJ #[vp,vr] h (I (UF ps.length rs)):=by
 obtain⟨a,cap,rfl⟩:=hf.aU;obtain⟨a2,JA,rfl⟩:=hp.aU;refine bG.bH func109 [(0,.slice a2 ps.length JA),(1,.slice a rs.length cap)] ?_;refine CW ?_;refine W.aJ O (fun ZI=>?_) (fun ZI=>?_)
 ·refine lg ?_;refine lQ ?_;show I _=I _;congr 1;simp only[UF];rw[if_pos aj]
 refine iC ?_;refine W.aJ O (fun PV=>?_) (fun PV=>?_)
 ·refine lg ?_;refine lQ ?_;show I _=I _;congr 1;simp only[UF];rw[if_neg aj,if_pos aj]
 refine gZ ?_;refine W.loop (σ:=Nat) (fun k=>k<=rs.length/\rs.any (fun r=>decide (outs r 0 20))=(rs.drop k).any (fun r=>decide (outs r 0 20))) (fun k=>[(19,I k),(18,I rs.length),(17,.slice a rs.length cap)]) (fun _=>[]) (fun k=>rs.length-k) 0 ⟨Nat.zero_le _,O⟩ iw .refl ?_;rintro k ⟨hk,hd⟩;refine kJ ?_;refine W.aJ O (fun c20=>?_) (fun c20=>?_)
 ·obtain⟨p,hp,yI⟩:=has (show k<rs.length by omega);rw[yI,List.any_cons]at hd;obtain⟨b,off,c,E,fz,rfl,hb,hx,hy,hz⟩:=hf.at hp;have Aq:c[off+k*1]? =some (I p):=hz 0 dF;clear hx hz;refine CW ?_;refine cp (fun h' hE hL=>pR _ h' _ _ _) ?_;refine qj ?_;refine W.aJ O (fun c24=>?_) (fun c24=>?_)
  ·refine gZ ?_;refine lQ ?_;show I _=I _;congr 1;simp only[UF];rw[if_neg aj,if_neg aj,hd,decide_eq_true c24];rfl
  refine jk ?_;rw[decide_eq_false c24,Bool.false_or]at hd;exact⟨O,k+1,⟨aj,hd⟩,aj,iw,qE⟩
 have:k=rs.length:=by omega
 subst this;refine gZ ?_;refine lQ ?_;show I _=I _;congr 1;simp only[UF];rw[if_neg aj,if_neg aj,hd];simp
theorem agI(main:aN)(h:Hp)(ps:List Pn)(ls:List Lt)(rs:List Int)(vp vl vr:Value)(hp:Sl h Pn.row vp ps)(hl:Sl h Lt.row vl ls)(hr:Sl h bY vr rs):bG aV main TW #[vp,vl,vr] h []
  (fun v A=>(jP ps ls rs≠0/\v= .tuple #[.pointer none,I (jP ps ls rs)]/\eH A)\/(jP ps ls rs=0/\∃bl R vm,v= .tuple #[aG bl,I 0]/\Os aX bY vm rs R/\Sb ((bl,.cells #[vp,U8 0,vl,vm] EH (0,0))::R) A)):=by
 obtain⟨a,cap,rfl⟩:=hp.aU;obtain⟨a2,JA,rfl⟩:=hl.aU;obtain⟨a3,Zq,rfl⟩:=hr.aU;refine bG.bH func78 [(0,.slice a ps.length cap),(1,.slice a2 ls.length JA),(2,.slice a3 rs.length Zq)] ?_;have hbe:UE ps []=Dw ps:=by unfold UE;split <;>simp_all
 refine kR ?_;refine cp (fun h' hE hL=>ajx _ h' ps _ [] _ (hp.ext hE) .nil (by simp)) ?_;refine gI ?_
 have IW:∃cs:Array Value,(if UE ps []=0 then ajw (.slice a ps.length cap) 0 else aoe)= .agg cs/\cs.size=2/\lC cs.toList=true:=by
  split <;>exact⟨_,rfl,rfl,rfl⟩
 obtain⟨cs,IW,axi,axj⟩:=IW;rw[IW,hbe];refine aA.new (fun zC=>?_);refine aA.Yi (n:=2) (vs:=cs) ?_ (hy:=by rfl) (hn:=axi) (h1:=axj);refine kR ?_;refine W.aJ O (fun c18=>?_) (fun c18=>?_)
 ·refine kR ?_;have e:jP ps ls rs=Dw ps:=by rw[jP,if_pos c18]
  refine iQ (vs:=[_,_]) (.inl ⟨by rw[e];exact c18,by rw[e];rfl,by repeat(first | exact eH.nil | refine eH.cons rfl ?_)⟩)
 have h0:Dw ps=0:=by simpa using c18
 rw[hbe,if_pos h0]at IW
 cases IW
 refine lg ?_;refine cp (fun h' hE hL=>Zp _ h' ls _ (hl.ext hE)) ?_;refine jk ?_;refine W.aJ O (fun c23=>?_) (fun c23=>?_)
 ·refine kR ?_;have e:jP ps ls rs=NM ls:=by rw[jP,if_neg (by simpa using h0),if_pos c23]
  refine iQ (vs:=[_,_]) (.inl ⟨by rw[e];exact c23,by rw[e];rfl,by repeat(first | exact eH.nil | refine eH.cons rfl ?_)⟩)
 refine jk ?_;refine cp (fun h' hE hL=>Wh _ h' ps rs _ _ (hp.ext hE) (hr.ext hE) (EO.xE h0).len) ?_;refine jk ?_;refine W.aJ O (fun c29=>?_) (fun c29=>?_)
 ·refine kR ?_;have h1:NM ls=0:=by simpa using c23
  have e:jP ps ls rs=UF ps.length rs:=by rw[jP,if_neg (by simpa using h0),if_neg (by simpa using h1)]
  refine iQ (vs:=[_,_]) (.inl ⟨by rw[e];exact c29,by rw[e];rfl,by repeat(first | exact eH.nil | refine eH.cons rfl ?_)⟩)
 have h1:NM ls=0:=by simpa using c23
 have h2:UF ps.length rs=0:=by simpa using c29
 have e:jP ps ls rs=0:=by rw[jP,if_neg (by simpa using h0),if_neg (by simpa using h1)];exact h2
 have uU:=Ip.xE h2;have hpk:=EO.xE h0;refine gI ?_;refine W.jS (n:=8) O ?_;refine ay 0 ?_;refine ay 1 ?_;refine ay 2 ?_;refine ae (i:=3) O an O O (oL (args:=[_]) O O (fun h' hE hL=>DC _ h' rs _ (hr.ext hE) (by have:=uU.len;have:=hpk.len;omega)) (fun v A' hv=>?_));refine⟨.inr (aC.app aC.refl),?_⟩;obtain⟨R,hR,bF⟩:=hv;obtain⟨a4,axk,rfl⟩:=hR.aU;refine fJ 4 (dw (cs:= #[.slice a ps.length cap,U8 0,.slice a2 ls.length JA,.slice a4 rs.length axk]) O O O) O ?_;refine ae (i:=5) O an O O (eBA O O (fun axl=>?_));refine⟨.inr aiJ,?_⟩;refine ay 6 ?_;refine ay 7 ?_;refine az ?_;refine d_ ?_;refine iQ (vs:=[_,_]) (.inr ⟨e,axl,R,_,O,hR,.cons (.right bF (.cons O .nil))⟩)
end Go.jc
