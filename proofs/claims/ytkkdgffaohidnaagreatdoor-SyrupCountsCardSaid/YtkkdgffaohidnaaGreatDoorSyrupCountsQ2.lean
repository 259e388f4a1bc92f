/- Pans shut, as the document has it. Conditions: none; over the given program. (And 9 texts more.) -/
import Derived.Test.YtkkdgffaohidnaaGreatDoorR13
import Derived.Test.YtkkdgffaohidnaaGreatDoorSyrupCountsQ1
import Derived.Test.YtkkdgffaohidnaaGreatDoorR10
import Derived.Test.YtkkdgffaohidnaaGreatDoorR14
set_option linter.unusedVariables false
set_option linter.unusedSimpArgs false
set_option linter.unusedSectionVars false

/- Pans shut, as the document has it. Conditions: none; over the given program. -/
namespace Go.aS
set_option maxRecDepth 100000
set_option maxHeartbeats 4000000
theorem ajo(main:Side)(h:Hp)(ps:List Pn)(l:List Int)(vp vl:Value)(hf:Sl h Pn.row vp ps)(hl:Sl h fH vl l)(Du:ps.length≤1000)(hl4:l.length≤1000):dV prog main ahM #[vp,vl] h [] (fun v A=>Os Ag Pn.row v (ah7 ps l) A):=by
 obtain⟨a,cap,rfl⟩:=hf.dA
 obtain⟨a2,cap2,rfl⟩:=hl.dA
 refine dV.aG ah8 rfl (by show 2≤40;decide) [(0,.slice a ps.length cap),(1,.slice a2 l.length cap2)] ⟨rfl,rfl,trivial⟩ ?_
 refine W.seq<|W.region rfl<|agb rfl rfl rfl<|pq<|W.seq<|W.region rfl<|agb rfl rfl rfl<|pq ?_
 refine W.seq<|W.seq<|W.region rfl<|agb rfl rfl rfl<|pq<|W.block ?_
 refine W.Js (fun(i:Nat) (v:Value) (S:ah)=>i≤ps.length∧Os Ag Pn.row v (ail ps l i) S) (fun i v S=>[(6,I i),(5,v),(0,.slice a ps.length cap),(1,.slice a2 l.length cap2)]) (fun i v S=>S) (fun i _ _=>ps.length-i) 0 (.slice none 0 0) [] ⟨Nat.zero_le _,.nil .nil⟩ ⟨rfl,rfl,rfl,rfl,trivial⟩ .refl ?_
 rintro i v S ⟨hi,hS⟩
 refine W.seq<|W.seq<|W.region rfl<|qm rfl rfl rfl<|qm rfl rfl rfl ?_
 refine agW (dM rfl rfl) rfl ?_
 refine agW (fO rfl rfl rfl) rfl ?_
 refine pq ?_
 refine W.bC rfl (fun c12=>?_) (fun c12=>?_)
 ·have hil:i<ps.length:=by omega
  obtain⟨p,hp,-⟩:=has hil
  have hsl:=aiy (ps:=ps) (l:=l) (i:=i)
  refine W.skip<|aA<|W.seq<|W.block<|W.seq<|W.region rfl<|agb rfl rfl rfl<|pq<|W.seq ?_
  refine W.seq<|W.region rfl<|agb rfl rfl rfl<|pq<|W.block ?_
  refine W.loop (σ:=Nat) (fun k=>k≤l.length) (fun k=>[(8,I k),(7,.bool (decide ((i:Int)∈l.take k))),(6,I i),(5,v),(0,.slice a ps.length cap),(1,.slice a2 l.length cap2)]) (fun _=>S) (fun k=>l.length-k) 0 (Nat.zero_le _) ⟨rfl,lk rfl (congrArg Value.bool (by simp)),rfl,rfl,rfl,rfl,trivial⟩ .refl ?_
  rintro k hk
  refine W.seq<|W.seq<|W.region rfl<|qm rfl rfl rfl<|qm rfl rfl rfl ?_
  refine agW (dM rfl rfl) rfl ?_
  refine agW (fO rfl rfl rfl) rfl ?_
  refine pq ?_
  refine W.bC rfl (fun c18=>?_) (fun c18=>?_)
  ·have hkl:k<l.length:=by omega
   obtain⟨x,hx,-⟩:=has hkl
   obtain⟨b2,off2,c2,E2,fz2,hv2,hb2,-,-,hz2⟩:=hl.at hx
   cases hv2
   have hc2:c2[off2+k*1]? =some (I x):=hz2 0 (by decide)
   refine W.skip<|aA<|W.seq<|W.block<|W.region rfl<|qm rfl rfl rfl<|qm rfl rfl rfl ?_
   refine Ops.RV (fun ajf=>?_) (fun ajf=>?_)
   ·refine Ops.no ?_
    refine Ops.no ?_
    refine Ops.no ?_
    refine Ops.no ?_
    refine Ops.no ?_
    refine Ops.no ?_
    refine agW (dG rfl rfl rfl) rfl ?_
    refine agb rfl rfl rfl<|Ops.nil<|dI<|aA<|W.region rfl<|qm rfl rfl rfl ?_
    refine ag1 rfl ?_
    refine agb rfl rfl rfl<|pq ?_
    refine⟨rfl,k+1,hkl,by omega,⟨rfl,lk rfl (congrArg Value.bool ?_),rfl,rfl,rfl,rfl,trivial⟩,.refl⟩
    have e:decide ((i:Int)∈l.take (k+1))=(decide ((i:Int)∈l.take k)|| decide (x=(i:Int))):=by
     rw[←Bool.decide_or]
     refine decide_eq_decide.2 ?_
     rw[List.take_add_one,hx,List.mem_append]
     simp[eq_comm]
    rw[e]
    first | (rw[ajf];rfl) | (rw[Bool.eq_false_iff.2 ajf];rfl) | simp_all
   ·refine oq (aN rfl rfl) rfl (ak rfl rfl rfl) rfl rfl ?_
    refine oq (aN rfl rfl) rfl (ak rfl rfl rfl) rfl rfl ?_
    first | refine oq (G_ rfl rfl rfl) rfl (ak rfl rfl rfl) rfl rfl ?_ | refine oq (o_ rfl rfl rfl) rfl (ak rfl rfl rfl) rfl rfl ?_
    refine oq (iQ rfl rfl) rfl (ak rfl rfl rfl) rfl rfl ?_
    refine oq (aN rfl rfl) rfl (ak rfl rfl rfl) rfl rfl ?_
    refine oq (nD rfl rfl rfl) rfl (ak rfl rfl rfl) rfl rfl ?_
    refine agW (iH rfl rfl rfl) rfl ?_
    refine agb rfl rfl rfl<|Ops.nil<|dI<|aA<|W.region rfl<|qm rfl rfl rfl ?_
    refine ag1 rfl ?_
    refine agb rfl rfl rfl<|pq ?_
    refine⟨rfl,k+1,hkl,by omega,⟨rfl,lk rfl (congrArg Value.bool ?_),rfl,rfl,rfl,rfl,trivial⟩,.refl⟩
    have e:decide ((i:Int)∈l.take (k+1))=(decide ((i:Int)∈l.take k)|| decide (x=(i:Int))):=by
     rw[←Bool.decide_or]
     refine decide_eq_decide.2 ?_
     rw[List.take_add_one,hx,List.mem_append]
     simp[eq_comm]
    rw[e]
    first | (rw[ajf];rfl) | (rw[Bool.eq_false_iff.2 ajf];rfl) | simp_all
  ·obtain rfl:k=l.length:=by omega
   rw[List.take_length]
   have hk1:ail ps l (i+1)=ail ps l i++(if(i:Int)∈l then[]else[p]):=by rw[ail,hp]
   refine W.exit<|bP<|bP<|gG<|aA<|W.seq<|W.region rfl<|qm rfl rfl rfl ?_
   refine agW (xU rfl rfl) rfl ?_
   refine pq ?_
   refine W.cond rfl (fun c31=>?_) (fun c31=>?_)
   ·obtain⟨b,off,c,E,fz,hv,hb,hx1,hy1,hz1⟩:=hf.at hp
    cases hv
    have hx':c.extract (off+i*3) (off+i*3+3)= #[I p.lo,I p.hi,I p.sh]:=hx1
    clear hx1 hz1
    have hn:(i:Int)∉l:=by simpa using c31
    rw[if_neg hn]at hk1
    refine W.region rfl<|qm rfl rfl rfl<|qm rfl rfl rfl<|qm rfl rfl rfl ?_
    refine ag3 rfl ?_
    refine ag2 rfl ?_
    refine Ops.NK (cs:= #[I p.lo,I p.hi,I p.sh]) (fun akW=>?_) rfl (hf:=by kernel_rfl)
    refine oe rfl wn rfl rfl (iW (row:=Pn.row) (l':=[p]) rfl rfl rfl hS (.tail .all) (fun h2 _ hl=>Sl.mk (hl akW _ (.head _)) rfl (Part.all (Pn.row p))) (by simp;omega) (by decide) rfl (fun v' S' hS'=>?_))
    refine agb rfl rfl rfl<|Ops.nil<|dI<|aA<|W.region rfl<|qm rfl rfl rfl ?_
    refine ag1 rfl ?_
    refine agb rfl rfl rfl<|pq ?_
    exact⟨rfl,i+1,v',S',⟨hil,by rw[hk1];exact hS'⟩,by omega,⟨rfl,rfl,rfl,rfl,trivial⟩,.skip rfl .refl⟩
   ·refine W.skip<|dI<|aA<|W.region rfl<|qm rfl rfl rfl ?_
    refine ag1 rfl ?_
    refine agb rfl rfl rfl<|pq ?_
    have hn:(i:Int)∈l:=by simpa using c31
    rw[if_pos hn,List.append_nil]at hk1
    exact⟨rfl,i+1,v,S,⟨hil,by rw[hk1];exact hS⟩,by omega,⟨rfl,rfl,rfl,rfl,trivial⟩,.refl⟩
 ·refine W.exit<|bP<|bP<|gG<|aA<|W.seq<|W.region rfl<|qm rfl rfl rfl<|agb rfl rfl rfl<|Ops.nil ?_
  refine aA<|W.ret ?_
  obtain rfl:i=ps.length:=by omega
  exact mg (vs:=[v]) hS
end Go.aS

/- SyrupForced. Conditions: none; over the given program. -/
namespace Go.aS
set_option maxRecDepth 100000
set_option maxHeartbeats 4000000
end Go.aS

/- SyrupClosed. Conditions: none; over the given program. -/
namespace Go.aS
set_option maxRecDepth 100000
set_option maxHeartbeats 4000000
theorem ajC{ps:List Pn}(h4:ps.length≤4){s:Nat}(hs:s<16):CB ps s=decide ((qsL fun k=>dD (dO (ah7 ps (zs (JL s))) 0) 13 k)=[]):=by
 have hc:∀i,i<4→(s.testBit i=true↔(i:Int)∈zs (JL s)):=by
  intro i hi
  simp only[zs,JL,List.mem_map,List.mem_filter,List.mem_range]
  constructor
  ·exact fun h=>⟨i,⟨hi,h⟩,rfl⟩
  ·rintro⟨j,⟨-,h⟩,e⟩
   obtain rfl:j=i:=by omega
   exact h
 rw[Bool.eq_iff_iff,decide_eq_true_iff,CB,List.all_eq_true,List.eq_nil_iff_forall_not_mem]
 simp only[afm,ajH (aiW h4 hc),List.mem_range,Bool.not_eq_true',not_and,Bool.not_eq_true]
theorem ajR{ps:List Pn}(h4:ps.length≤4):CB ps (2 ^ ps.length-1)=true:=by
 refine List.all_eq_true.2 fun k _=>?_
 rw[Bool.not_eq_true',←Bool.not_eq_true,JJ]
 rintro⟨v,e,h1,h2⟩
 rcases v with _ | ⟨p,r⟩
 ·cases h1
 ·obtain⟨o,h3,-⟩:=h2
  obtain⟨i,x,hx,hb,-⟩:=(ai2 h4).1 ⟨p,h3⟩
  obtain⟨hi,-⟩:=List.getElem?_eq_some_iff.1 hx
  rw[Nat.testBit_two_pow_sub_one]at hb
  simp at hb;omega
theorem ajA{ps:List Pn}(h4:ps.length≤4):∃s,s<16∧CB ps s=true∧Oo ps=JL s∧ae3.find? (fun s=>decide (s≤2 ^ ps.length-1)&&CB ps s)=some s:=by
 have hall:2 ^ ps.length-1<16:=ab2 h4
 have:=aia (l:=(List.range (2 ^ ps.length-1)).filter (CB ps)) hall (ajR h4) (fun s=>by rw[List.mem_filter,List.mem_range])
 refine⟨_,?_,?_,rfl,this⟩
 ·have h1:=List.find?_some this
  simp only[Bool.and_eq_true,decide_eq_true_eq]at h1
  omega
 ·have h1:=List.find?_some this
  simp only[Bool.and_eq_true]at h1
  exact h1.2
end Go.aS

/- All ascending lists of so many numbers, as the document makes them. Conditions: none; no program in sight. -/
namespace Go.aS
set_option linter.unusedVariables false
set_option maxRecDepth 100000
def chR(n:Nat):Nat→Nat→List (List Int)
 | 0,_=>[[]]
 | k+1,f=>((List.range n).filter fun j=>decide (f≤j)).flatMap fun j=>(chR n k (j+1)).map fun l=>(j:Int)::l
def chP(n k f i:Nat):List (List Int):=((List.range i).filter fun j=>decide (f≤j)).flatMap fun j=>(chR n k (j+1)).map fun l=>(j:Int)::l
theorem auo{n k f i:Nat}(h:i≤f):chP n k f i=[]:=by
 have e:(List.range i).filter (fun j=>decide (f≤j))=[]:=by
  rw[List.filter_eq_nil_iff];intro j hj;have:=List.mem_range.1 hj;simp;omega
 rw[chP,e];rfl
theorem as9{n k f i:Nat}(h:f≤i):chP n k f (i+1)=chP n k f i++(chR n k (i+1)).map fun l=>(i:Int)::l:=by
 rw[chP,List.range_succ,List.filter_append,List.flatMap_append,List.filter_cons,if_pos (decide_eq_true h)]
 simp[chP]
def okR(n k f:Nat):Bool:=decide ((chR n k f).length≤6)&&((List.range 5).all fun i=>decide ((chP n k f i).length≤24))&&(chR n k f).all fun g=>decide (g.length≤4)
theorem atw:((List.range 5).all fun n=>(List.range 5).all fun k=>(List.range 6).all fun f=>okR n k f)=true:=by kernel_rfl
theorem asV{n k f:Nat}(hn:n≤4)(hk:k≤4)(hf:f≤5):(chR n k f).length≤6∧(∀i,i≤4→(chP n k f i).length≤24)∧∀g∈chR n k f,g.length≤4:=by
 have h1:=List.all_eq_true.1 atw n (List.mem_range.2 (by omega))
 have h2:=List.all_eq_true.1 h1 k (List.mem_range.2 (by omega))
 have h3:=List.all_eq_true.1 h2 f (List.mem_range.2 (by omega))
 simp only[okR,Bool.and_eq_true,decide_eq_true_eq,List.all_eq_true]at h3
 exact⟨h3.1.1,fun i hi=>h3.1.2 i (List.mem_range.2 (by omega)),h3.2⟩
def chU(n k:Nat):Bool:=decide (chR n k 0=(chS n k).map fun s=>zs (JL s))
theorem atx:((List.range 5).all fun n=>(List.range (n+1)).all fun k=>chU n k)=true:=by kernel_rfl
theorem ata{n k:Nat}(hn:n≤4)(hk:k≤n):chR n k 0=(chS n k).map fun s=>zs (JL s):=by
 have h1:=List.all_eq_true.1 atx n (List.mem_range.2 (by omega))
 have h2:=List.all_eq_true.1 h1 k (List.mem_range.2 (by omega))
 exact of_decide_eq_true h2
end Go.aS

/- Which pans to close, as the document has it. Conditions: none; over the given program. -/
namespace Go.aS
set_option maxRecDepth 100000
set_option maxHeartbeats 4000000
theorem UG.pick{α:Type}{row:α→List Value}{w:Nat}[Rw row w]{E:TypeId}{vs:List Sv}{ls:List (List α)}{A:ah}(h:UG E row vs ls A):∀{k:Nat} {s:Sv} {l:List α},vs[k]? =some s→ls[k]? =some l→∃B,Os E row s.val l B∧Sb B A:=by
 induction h with
 | nil=>intro k s l hs;simp at hs
 | cons h1 h2 ih=>
  intro k s l hs hl
  rcases k with _ | k
  ·simp at hs hl;subst hs hl
   exact⟨_,h1,.right .refl h2.shut⟩
  ·simp at hs hl
   obtain⟨B,h3,h4⟩:=ih hs hl
   exact⟨B,h3,.left h4 h1.shut⟩
theorem as1(main:Side)(n:Nat)(hn:n≤4):∀(k f:Nat) (h:Hp),k≤4→f≤n→dV prog main ar6 #[I f,I n,I k] h [] (fun v A=>∃O us B,Os nS ags v us O∧UG dL fH us (chR n k f) B∧Sb (O++B) A):=by
 intro k
 induction k using Nat.strongRecOn with
 | _ k ih=>
  intro f h hk hf
  refine dV.aG asH rfl (by show 3≤43;decide) [(0,I f),(1,I n),(2,I k)] ⟨rfl,rfl,rfl,trivial⟩ ?_
  refine W.seq<|W.region rfl<|agb rfl rfl rfl<|pq<|W.seq<|W.seq<|W.region rfl<|qm rfl rfl rfl ?_
  refine agW (nD rfl rfl rfl) rfl ?_
  refine pq ?_
  refine W.bC rfl (fun c12=>?_) (fun c12=>?_)
  ·refine W.seq<|W.region rfl ?_
   refine Ops.NK (cs:= #[.slice none 0 0]) (fun X5=>?_) rfl
   refine agb rfl rfl rfl<|pq<|W.ret<|aY ?_
   obtain rfl:k=0:=by omega
   have hO0:Os nS ags (.slice (some ⟨X5,0,none⟩) 1 1) [(⟨none,0,0⟩:Sv)] [(X5,.cells #[.slice none 0 0] nS (0,0))]:=.inr ⟨X5,_,1,[],rfl,rfl,rfl,Nat.le_refl _,Part.all _,.nil⟩
   have hB0:UG dL fH [(⟨none,0,0⟩:Sv)] (chR n 0 f) []:=by
    have:=UG.cons (E:=dL) (row:=fH) (s:=(⟨none,0,0⟩:Sv)) (l:=[]) (.nil .nil) .nil
    exact this
   exact mg (vs:=[_]) ⟨_,_,_,hO0,hB0,.refl⟩
  ·obtain⟨k,rfl⟩:∃j,k=j+1:=⟨k-1,by omega⟩
   refine W.skip<|aA<|W.seq<|W.region rfl<|agb rfl rfl rfl<|pq<|W.seq<|W.seq<|W.region rfl ?_
   refine qm rfl rfl rfl<|agb rfl rfl rfl<|pq<|W.block ?_
   refine W.loop (σ:=Nat×List Sv×Option Addr×Nat×ah×ah) (fun q=>f≤q.1∧q.1≤n∧Os nS ags (.slice q.2.2.1 q.2.1.length q.2.2.2.1) q.2.1 q.2.2.2.2.1∧UG dL fH q.2.1 (chP n k f q.1) q.2.2.2.2.2) (fun q=>[(8,I q.1),(7,.slice q.2.2.1 q.2.1.length q.2.2.2.1),(1,I n),(2,I ((k+1:Nat)))]) (fun q=>q.2.2.2.2.1++q.2.2.2.2.2) (fun q=>n-q.1) (f,[],none,0,[],[]) ⟨Nat.le_refl _,hf,.nil .nil,by rw[auo (Nat.le_refl _)];exact .nil⟩ ⟨rfl,rfl,rfl,rfl,trivial⟩ .refl ?_
   rintro⟨i,us,sa,sc,O,B⟩ ⟨hfi,hi,hO,hB⟩
   dsimp only at*
   refine W.seq<|W.seq<|W.region rfl<|qm rfl rfl rfl<|qm rfl rfl rfl ?_
   refine agW (fO rfl rfl rfl) rfl ?_
   refine pq ?_
   refine W.bC rfl (fun c17=>?_) (fun c17=>?_)
   ·have hi1:i<n:=by omega
    obtain⟨-,hPl,-⟩:=asV (n:=n) (k:=k) (f:=f) hn (by omega) (by omega)
    have hPi:=hPl i (by omega)
    obtain⟨hRl,-,hRg⟩:=asV (n:=n) (k:=k) (f:=i+1) hn (by omega) (by omega)
    have hnx:=as9 (n:=n) (k:=k) (f:=f) (i:=i) hfi
    refine W.skip<|aA<|W.seq<|W.block<|W.seq<|W.region rfl<|qm rfl rfl rfl ?_
    refine KU (Zi rfl rfl rfl) (congrArg (Value.int .i64) (show(i:Int)+1=((i+1:Nat):Int) by omega)) rfl wn rfl rfl ?_
    refine qm rfl rfl rfl<|qm rfl rfl rfl ?_
    refine KU (acL rfl rfl rfl) (congrArg (Value.int .i64) (show((k+1:Nat):Int)-1=((k:Nat):Int) by omega)) rfl wn rfl rfl ?_
    refine c0 (fun h' hE hL=>ih k (by omega) (i+1) h' (by omega) (by omega)) (fun v A' hv=>?_)
    obtain⟨O2,us2,B2,hO2,hB2,Oh⟩:=hv
    refine Ops.sb (F':=(O2++B2)++(O++B)) (Oh.app .refl) ?_
    obtain⟨a2,c2,rfl⟩:=hO2.dA
    have hul:=hB2.len
    refine agb rfl rfl rfl<|pq<|W.seq<|W.region rfl<|agb rfl rfl rfl<|pq<|W.block ?_
    refine W.loop (σ:=Nat×List Sv×Option Addr×Nat×ah×ah) (fun q=>q.1≤us2.length∧Os nS ags (.slice q.2.2.1 q.2.1.length q.2.2.2.1) q.2.1 q.2.2.2.2.1∧UG dL fH q.2.1 (chP n k f i++((chR n k (i+1)).take q.1).map fun l=>(i:Int)::l) q.2.2.2.2.2) (fun q=>[(10,I q.1),(9,.slice a2 us2.length c2),(8,I i),(7,.slice q.2.2.1 q.2.1.length q.2.2.2.1),(1,I n),(2,I ((k+1:Nat)))]) (fun q=>(O2++B2)++(q.2.2.2.2.1++q.2.2.2.2.2)) (fun q=>us2.length-q.1) (0,us,sa,sc,O,B) ⟨Nat.zero_le _,hO,by simpa using hB⟩ ⟨rfl,rfl,rfl,rfl,rfl,rfl,trivial⟩ .refl ?_
    clear hO hB
    rintro⟨x,us,sa,sc,O,B⟩ ⟨hx,hO,hB⟩
    dsimp only at*
    refine W.seq<|W.seq<|W.region rfl<|qm rfl rfl rfl<|qm rfl rfl rfl ?_
    refine agW (dM rfl rfl) rfl ?_
    refine agW (fO rfl rfl rfl) rfl ?_
    refine pq ?_
    refine W.bC rfl (fun c29=>?_) (fun c29=>?_)
    ·have hx1:x<us2.length:=by omega
     obtain⟨g,hg,-⟩:=has (show x<(chR n k (i+1)).length by omega)
     obtain⟨s,hs0,-⟩:=has hx1
     have hgl:=hRg g (List.mem_of_getElem? hg)
     have hbl:=hB.len
     rw[List.length_append,List.length_map,List.length_take]at hbl
     obtain⟨βo,co',Jo,hsa,hOe,-,-,-,hPo,-⟩:=hO2.open (by omega)
     subst hsa
     have hcell:co'[0+x*1+0]? =some (.slice s.a s.n s.cap):=hPo.Bo hs0 0 (by decide)
     refine W.skip<|aA<|W.seq<|W.block<|W.region rfl<|qm rfl rfl rfl<|qm rfl rfl rfl ?_
     refine Ops.NK (cs:= #[I i]) (fun ahd=>?_) rfl
     refine qm rfl rfl rfl<|qm rfl rfl rfl ?_
     refine ag3 rfl ?_
     refine oq (iQ rfl rfl (.inr (fun _ e=>by subst e;exact List.mem_cons_of_mem _ (List.mem_append_left _ (List.mem_append_left _ (by rw[hOe];exact .head _))))) hcell) rfl wn rfl rfl ?_
     have avc:Os dL fH (.slice (some ⟨ahd,0,none⟩) 1 1) [(i:Int)] [(ahd,.cells #[I i] dL (0,0))]:=.inr ⟨ahd,_,1,[],rfl,rfl,rfl,Nat.le_refl _,Part.all _,.nil⟩
     refine oe rfl wn rfl rfl (iW (row:=fH) (l:=[(i:Int)]) (l':=g) rfl rfl rfl avc (Seg.head (A:=[_])) (fun h2 _ hl=>hB2.sl (fun b o hb=>hl b o (List.mem_append_right [] (List.mem_append_left _ (List.mem_append_right _ hb)))) hs0 hg) (by simp;omega) (by decide) rfl (fun v2 S2 hS2=>?_))
     obtain⟨s2,rfl⟩:=Sv.eta hS2
     refine Ops.NK (cs:= #[.slice s2.a s2.n s2.cap]) (fun atT=>?_) rfl
     refine oe rfl wn rfl rfl (iW (row:=ags) (l':=[s2]) rfl rfl rfl hO (.tail (.app (.app .head))) (fun h2 _ hl=>Sl.mk (hl atT _ (.head _)) rfl (Part.all (ags s2))) (by simp;omega) (by decide) rfl (fun v3 N3 hN3=>?_))
     obtain⟨na3,nc3,rfl⟩:=hN3.dA
     refine agb rfl rfl rfl<|Ops.nil<|dI<|aA<|W.region rfl<|qm rfl rfl rfl ?_
     refine ag1 rfl ?_
     refine agb rfl rfl rfl<|pq ?_
     refine⟨rfl,(x+1,us++[s2],na3,nc3,N3,B++S2),⟨hx1,hN3,by dsimp only;rw[List.take_add_one,hg,List.map_append,←List.append_assoc];exact hB.snoc hS2⟩,by dsimp only;omega,⟨rfl,rfl,rfl,rfl,rfl,rfl,trivial⟩,?_⟩
     dsimp only
     show Sb _ ((atT,.cells #[.slice s2.a s2.n s2.cap] nS (0,0))::_)
     refine⟨[(atT,.cells #[.slice s2.a s2.n s2.cap] nS (0,0))],agQ fun y=>?_,.cons rfl .nil⟩
     simp only[List.count_append,List.count_cons,List.count_nil];omega
    ·refine W.exit<|bP<|bP<|gG<|dI<|aA<|W.region rfl<|qm rfl rfl rfl ?_
     refine ag1 rfl ?_
     refine agb rfl rfl rfl<|pq ?_
     obtain rfl:x=us2.length:=by omega
     rw[List.take_of_length_le (by omega),←hnx]at hB
     exact⟨rfl,(i+1,us,sa,sc,O,B),⟨by dsimp only;omega,hi1,hO,hB⟩,by dsimp only;omega,⟨lk rfl (show I _=I _ by congr 1),rfl,rfl,rfl,trivial⟩,.left .refl (hO2.shut.app hB2.shut)⟩
   ·refine W.exit<|bP<|bP<|gG<|aA<|W.seq<|W.region rfl<|qm rfl rfl rfl<|agb rfl rfl rfl<|Ops.nil ?_
    refine aA<|W.ret ?_
    obtain rfl:i=n:=by omega
    exact mg (vs:=[_]) ⟨O,us,B,hO,hB,.refl⟩
theorem as2(main:Side)(h:Hp)(ps:List Pn)(vp:Value)(hf:Sl h Pn.row vp ps):dV prog main asn #[vp] h [] (fun v A=>∃w S,v= .tuple #[w,I (nV ps)]∧Os dL fH w (if nV ps=0 then zs (Oo ps)else[]) S∧Sb S A):=by
 obtain⟨a,cap,rfl⟩:=hf.dA
 refine dV.aG asK rfl (by show 1≤52;decide) [(0,.slice a ps.length cap)] ⟨rfl,trivial⟩ ?_
 refine W.seq<|W.region rfl<|agb rfl rfl rfl<|agb rfl rfl rfl<|pq<|W.seq<|W.seq<|W.region rfl<|qm rfl rfl rfl ?_
 refine cp (fun h' hE hL=>ak9 _ h' ps _ (hf.ext hE)) ?_
 refine agb rfl rfl rfl<|pq<|W.seq<|W.region rfl<|qm rfl rfl rfl ?_
 refine agW (nG rfl rfl rfl) rfl ?_
 refine pq ?_
 refine W.bC rfl (fun c14=>?_) (fun c14=>?_)
 ·refine W.seq<|W.region rfl<|qm rfl rfl rfl<|agb rfl rfl rfl<|agb rfl rfl rfl<|pq<|W.ret<|aY ?_
  refine mg (vs:=[_,_]) ?_
  rw[if_neg (by assumption)]
  exact⟨_,[],rfl,.nil .nil,.nil .nil⟩
 ·have h0:nV ps=0:=by simpa using c14
  have hok:=iP.yB h0
  have h4:=hok.len
  obtain⟨sb,al4,al5,alE,akg⟩:=ajA h4
  refine W.skip<|aA<|W.seq<|W.region rfl<|agb rfl rfl rfl<|pq<|W.block ?_
  refine W.loop (σ:=Nat) (fun k=>∀j,j<k→∀u∈chS ps.length j,CB ps u=false) (fun k=>[(5,I k),(0,.slice a ps.length cap)]) (fun _=>[]) (fun k=>ps.length+1-k) 0 (fun j hj=>by omega) ⟨rfl,rfl,trivial⟩ .refl ?_
  rintro k hnk
  have hk1:k≤ps.length:=by
   rcases Nat.lt_or_ge ps.length k with hlt | hge
   ·exfalso
    have h1:=List.mem_of_find?_eq_some akg
    have h2:=List.find?_some akg
    simp only[Bool.and_eq_true,decide_eq_true_eq]at h2
    have h3:sb∈(List.range (ps.length+1)).flatMap (chS ps.length):=by
     rw[←ajQ h4];exact List.mem_filter.2 ⟨h1,by simpa using h2.1⟩
    obtain⟨j,hj,h5⟩:=List.mem_flatMap.1 h3
    have:=hnk j (by have:=List.mem_range.1 hj;omega) sb h5
    rw[h2.2]at this;cases this
   ·exact hge
  refine W.seq<|W.block<|W.seq<|W.region rfl<|qm rfl rfl rfl ?_
  refine agW (dM rfl rfl) rfl ?_
  refine qm rfl rfl rfl ?_
  refine c0 (fun h' hE hL=>as1 _ ps.length h4 k 0 h' (by omega) (Nat.zero_le _)) (fun v A' hv=>?_)
  obtain⟨O,us,B,hO,hB,hsb⟩:=hv
  refine Ops.sb (F':=(O++B)++[]) (hsb.app .refl) ?_
  obtain⟨a2,c2,rfl⟩:=hO.dA
  rw[ata h4 hk1]at hB
  have hul:=hB.len
  rw[List.length_map]at hul
  have hcl:=(asV (n:=ps.length) (k:=k) (f:=0) h4 (by omega) (by omega)).1
  rw[ata h4 hk1,List.length_map]at hcl
  refine agb rfl rfl rfl<|pq<|W.seq<|W.region rfl<|agb rfl rfl rfl<|pq<|W.block ?_
  refine W.loop (σ:=Nat) (fun i=>i≤us.length∧∀u∈(chS ps.length k).take i,CB ps u=false) (fun i=>[(7,I i),(6,.slice a2 us.length c2),(5,I k),(0,.slice a ps.length cap)]) (fun _=>O++B) (fun i=>us.length-i) 0 ⟨Nat.zero_le _,by simp⟩ ⟨rfl,rfl,rfl,rfl,trivial⟩ (by rw[List.append_nil];exact .refl) ?_
  rintro i ⟨hi,hno⟩
  refine W.seq<|W.seq<|W.region rfl<|qm rfl rfl rfl<|qm rfl rfl rfl ?_
  refine agW (dM rfl rfl) rfl ?_
  refine agW (fO rfl rfl rfl) rfl ?_
  refine pq ?_
  refine W.bC rfl (fun c25=>?_) (fun c25=>?_)
  ·have hil:i<us.length:=by omega
   obtain⟨u,hu,-⟩:=has (show i<(chS ps.length k).length by omega)
   obtain⟨s,hs0,-⟩:=has hil
   have hgi:((chS ps.length k).map fun s=>zs (JL s))[i]? =some (zs (JL u)):=by rw[List.getElem?_map,hu];rfl
   have alG:u<16:=by
    have:=(List.mem_filter.1 (List.mem_of_getElem? hu)).1
    revert this;exact(by decide:∀u∈ae3,u<16) u
   have al6:(JL u).length≤4:=Nat.le_trans (List.length_filter_le ..) (by simp)
   have hgu:=ajC h4 alG
   have hokS:=iP.yB (ajn (l:=zs (JL u)) h0)
   have h4S:=hokS.len
   obtain⟨βo,co',Jo,hsa,hOe,-,-,-,hPo,-⟩:=hO.open (by omega)
   subst hsa
   have hcell:co'[0+i*1+0]? =some (.slice s.a s.n s.cap):=hPo.Bo hs0 0 (by decide)
   refine W.skip<|aA<|W.seq<|W.block<|W.seq<|W.region rfl<|qm rfl rfl rfl<|qm rfl rfl rfl<|qm rfl rfl rfl ?_
   refine ag3 rfl ?_
   refine agW (iQ rfl rfl (.inr (fun _ e=>by subst e;exact List.mem_append_left _ (by rw[hOe];exact .head _))) hcell) rfl ?_
   refine c0 (fun h' hE hL=>ajo _ h' ps (zs (JL u)) _ s.val (hf.ext hE) (hB.sl (fun b o hb=>hL b o (List.mem_append_right _ hb)) hs0 hgi) (by omega) (by rw[kT];omega)) (fun v3 A3 hO3=>?_)
   refine c0 (fun h' hE hL=>aqY _ h' (ah7 ps (zs (JL u))) v3 (hO3.sl (fun b o hb=>hL b o (List.mem_append_left _ hb))) hokS) (fun v A' hv=>?_)
   obtain⟨β,rfl,Oh⟩:=hv
   refine Ops.sb (F':=(β,bsO (apy (ah7 ps (zs (JL u))) (-1) (fun _=>true) 13))::(O++B)) (Sb.trans (Sb.cons (.left .refl hO3.shut)) (Oh.app .refl)) ?_
   refine agb rfl rfl rfl<|agb rfl rfl rfl<|pq<|W.seq<|W.seq<|W.region rfl<|agb rfl rfl rfl<|pq ?_
   refine W.block ?_
   refine W.loop (σ:=Nat) (fun q=>q≤13) (fun q=>[(10,I q),(9,.bool ((List.range q).any fun e=>apy (ah7 ps (zs (JL u))) (-1) (fun _=>true) 13 e)),(8,V9 β),(7,I i),(6,.slice (some ⟨βo,0,none⟩) us.length c2),(5,I k),(0,.slice a ps.length cap)]) (fun _=>(β,bsO (apy (ah7 ps (zs (JL u))) (-1) (fun _=>true) 13))::(O++B)) (fun q=>13-q) 0 (Nat.zero_le _) ⟨rfl,rfl,rfl,rfl,rfl,rfl,rfl,trivial⟩ .refl ?_
   rintro q hq
   refine W.seq<|W.seq<|W.region rfl<|qm rfl rfl rfl ?_
   refine agW (Lr rfl rfl rfl) rfl ?_
   refine pq ?_
   refine W.bC rfl (fun c36=>?_) (fun c36=>?_)
   ·have Dn:q<13:=by omega
    have hg2:(bA (apy (ah7 ps (zs (JL u))) (-1) (fun _=>true) 13))[0+q*1]? =some (.bool (apy (ah7 ps (zs (JL u))) (-1) (fun _=>true) 13 q)):=by rw[show 0+q*1=q by omega];exact L9 Dn
    refine W.skip<|aA<|W.seq<|W.block<|W.region rfl<|qm rfl rfl rfl<|qm rfl rfl rfl ?_
    refine Ops.RV (fun auq=>?_) (fun auq=>?_)
    ·refine Ops.no ?_
     refine Ops.no ?_
     refine Ops.no ?_
     refine Ops.no ?_
     refine agW (dG rfl rfl rfl) rfl ?_
     refine agb rfl rfl rfl<|Ops.nil<|dI<|aA<|W.region rfl<|qm rfl rfl rfl ?_
     refine ag1 rfl ?_
     refine agb rfl rfl rfl<|pq ?_
     refine⟨rfl,q+1,Dn,by omega,⟨rfl,lk rfl (congrArg Value.bool ?_),rfl,rfl,rfl,rfl,rfl,trivial⟩,.refl⟩
     rw[List.range_succ,List.any_append,List.any_cons,List.any_nil,Bool.or_false]
     first | (rw[atb];rfl) | (rw[Bool.eq_false_iff.2 atb];rfl) | simp_all
    ·refine oq (aN rfl rfl) rfl (ak rfl rfl rfl) rfl rfl ?_
     refine oq (aN rfl rfl) rfl (ak rfl rfl rfl) rfl rfl ?_
     first | refine oq (G_ rfl rfl rfl) rfl (ak rfl rfl rfl) rfl rfl ?_ | refine oq (o_ rfl rfl rfl) rfl (ak rfl rfl rfl) rfl rfl ?_
     refine oq (iQ rfl rfl) rfl (ak rfl rfl rfl) rfl rfl ?_
     refine agW (iH rfl rfl rfl) rfl ?_
     refine agb rfl rfl rfl<|Ops.nil<|dI<|aA<|W.region rfl<|qm rfl rfl rfl ?_
     refine ag1 rfl ?_
     refine agb rfl rfl rfl<|pq ?_
     refine⟨rfl,q+1,Dn,by omega,⟨rfl,lk rfl (congrArg Value.bool ?_),rfl,rfl,rfl,rfl,rfl,trivial⟩,.refl⟩
     rw[List.range_succ,List.any_append,List.any_cons,List.any_nil,Bool.or_false]
     first | (rw[atb];rfl) | (rw[Bool.eq_false_iff.2 atb];rfl) | simp_all
   ·obtain rfl:q=13:=by omega
    have hany:((List.range 13).any fun e=>apy (ah7 ps (zs (JL u))) (-1) (fun _=>true) 13 e)= !CB ps u:=by
     rw[hgu,Bool.eq_iff_iff,List.any_eq_true,Bool.not_eq_true',decide_eq_false_iff_not]
     constructor
     ·rintro⟨e,h1,h2⟩ h3
      have:e∈(qsL fun k=>dD (dO (ah7 ps (zs (JL u))) 0) 13 k):=by
       rw[afm];refine⟨List.mem_range.1 h1,?_⟩
       rw[ap2 h4S]at h2;exact h2
      rw[h3]at this;cases this
     ·intro h1
      obtain⟨e,he⟩:=List.exists_mem_of_ne_nil _ h1
      rw[afm]at he
      exact⟨e,List.mem_range.2 he.1,by rw[ap2 h4S];exact he.2⟩
    rw[hany]
    refine W.exit<|bP<|bP<|gG<|aA<|W.seq<|W.region rfl<|qm rfl rfl rfl ?_
    refine agW (xU rfl rfl) rfl ?_
    refine pq ?_
    refine W.cond rfl (fun c47=>?_) (fun c47=>?_)
    ·have hG:CB ps u=true:=by simpa using c47
     have hfs:=ajJ h4 hk1 hu hG hnk hno
     obtain rfl:sb=u:=Option.some.inj (akg.symm.trans hfs)
     obtain⟨Bi,hBi,avd⟩:=hB.pick hs0 hgi
     refine W.seq<|W.region rfl<|qm rfl rfl rfl<|qm rfl rfl rfl ?_
     refine ag3 rfl ?_
     refine agW (iQ rfl rfl (.inr (fun _ e=>by subst e;exact List.mem_cons_of_mem _ (List.mem_append_left _ (by rw[hOe];exact .head _)))) hcell) rfl ?_
     refine agb rfl rfl rfl<|agb rfl rfl rfl<|pq<|W.ret<|cZ<|aY<|aY<|cZ<|cZ ?_
     refine aY<|aY<|cZ ?_
     refine mg (vs:=[_,_]) ?_
     rw[if_pos h0,h0,alE]
     exact⟨_,Bi,rfl,hBi,.skip rfl (.left avd hO.shut)⟩
    ·refine W.skip<|dI<|aA<|W.region rfl<|qm rfl rfl rfl ?_
     refine ag1 rfl ?_
     refine agb rfl rfl rfl<|pq ?_
     have hG:CB ps u=false:=by simpa using c47
     refine⟨rfl,i+1,⟨hil,fun x hx=>?_⟩,by omega,⟨rfl,rfl,rfl,rfl,trivial⟩,.skip rfl .refl⟩
     rw[List.take_add_one,hu]at hx
     rcases List.mem_append.1 hx with hx | hx
     ·exact hno x hx
     ·simp only[Option.toList_some,List.mem_singleton]at hx
      subst hx;exact hG
  ·refine W.exit<|bP<|bP<|gG<|dI<|aA<|W.region rfl<|qm rfl rfl rfl ?_
   refine ag1 rfl ?_
   refine agb rfl rfl rfl<|pq ?_
   refine⟨rfl,k+1,fun j hj u hu=>?_,by omega,⟨rfl,rfl,trivial⟩,.nil (hO.shut.app hB.shut)⟩
   rcases Nat.lt_or_ge j k with h | h
   ·exact hnk j h u hu
   ·obtain rfl:j=k:=by omega
    exact hno u (by rw[List.take_of_length_le (by omega)];exact hu)
end Go.aS

/- SyrupRings. Conditions: none; over the given program. -/
namespace Go.aS
set_option maxRecDepth 100000
set_option maxHeartbeats 4000000
end Go.aS

/- SyrupCounts. Conditions: none; over the given program. -/
namespace Go.aS
set_option maxRecDepth 100000
set_option maxHeartbeats 4000000
theorem aty{ps:List Pn}{q:Int}(h:ps.length≤20):(zs (FoF ps q).1).length≤100000:=by
 rw[kT,FoF]
 split
 ·simp
 ·split
  ·exact Nat.le_trans (List.length_filter_le ..) (by rw[List.length_range];omega)
  ·simp
theorem asw(main:Side)(hS:∀S,main.ok S→∃Fin,S=Mo prog Fin)(hmb:main.b=true)(h:Hp)(ps:List Pn)(vp:Value)(p:Pn)(q:Int)(nums:List Int)(lv:Value)(Eg:TypeId)(zg:Nat×Nat)(hf:Sl h Pn.row vp ps)(hl:Sl h fH lv nums)(hg:h 0=some (.cells #[Ur qM] Eg zg))(z0:h.z 0):QE prog main arl #[vp,p.val,I q,lv] h (.bool true):=by
 obtain⟨a,cap,rfl⟩:=hf.dA
 refine QE.aG arT rfl (by show 4≤135;decide) [(0,.slice a ps.length cap),(1,p.val),(2,I q),(3,lv)] ⟨rfl,rfl,rfl,rfl,trivial⟩ ?_
 refine W.seq<|W.region rfl ?_
 refine Ops.box (cs:= #[I p.lo,I p.hi,I p.sh]) (fun mZ=>?_)
 refine agb rfl rfl rfl<|pq<|W.seq<|W.seq<|W.region rfl<|qm rfl rfl rfl ?_
 refine agW (dM rfl rfl) rfl ?_
 refine agW (rC rfl rfl rfl) rfl ?_
 refine pq ?_
 refine W.bC rfl (fun c28=>?_) (fun c28=>?_)
 ·refine W.seq<|W.region rfl ?_
  refine cp (fun h' hE hL=>VW _ h' hS hmb _ _ (hE.1 _ _ (by first | exact hgz | exact hg))) ?_
  refine agb rfl rfl rfl<|pq<|W.ret<|aY ?_
  exact lvq rfl
 ·have arF:ps.length≤20:=by omega
  refine W.skip<|aA<|W.seq ?_
  refine W.DR [(mZ,.cells #[I p.lo,I p.hi,I p.sh] Ag (0,0))] (n:=6) rfl ?_
  refine xq 0 (aN rfl rfl) rfl ?_
  first | refine xq 1 (Bf rfl rfl) rfl ?_ | refine xq 1 (zi rfl rfl) rfl ?_
  refine xq 2 (aN rfl rfl) rfl ?_
  refine ae (i:=3) rfl an rfl rfl (QZ (args:=[_]) (A:=[]) rfl rfl (Seg.head (A:=[])) (fun h' hE hL=>VQ _ h' nums lv (hl.ext hE)) (fun v A' hv=>?_))
  obtain⟨b,s0,rfl,rfl⟩:=hv
  refine⟨.inr (.one (.tail _ (.head _)) .nil),?_⟩
  refine ae (i:=4) rfl an rfl rfl (QZ (args:=[_,_,_]) (A:=[(b,wF lv 0 s0)]) rfl rfl .head (fun h' hE hL=>apA _ h' nums lv b 0 s0 ps _ p (hl.ext hE) (by omega) (hf.ext hE)) (fun v A' hv=>?_))
  obtain⟨sv0,vs,ls,S,T,k1,s1,hs0,hT,hO,⟨hvl,hll⟩,hk1,hsb⟩:=hv
  obtain⟨at4,ct4,rfl⟩:=hT.dA
  refine⟨.inr (.one (List.mem_append_right _ (.head _)) .nil),Any.sb (F':=(mZ,.cells #[I p.lo,I p.hi,I p.sh] Ag (0,0))::(T++(S++[(b,wF lv k1 s1)]))) (Sb.trans (.dF (agQ fun y=>by simp only[List.count_append,List.count_cons,List.count_nil];omega)) (hsb.app (.refl (A:=[(mZ,.cells #[I p.lo,I p.hi,I p.sh] Ag (0,0))])))) ?_⟩
  refine xq 5 (jS rfl rfl) rfl ?_
  refine az ?_
  refine aA ?_
  refine W.sb (F':=T++(S++[])) (.skip rfl (.app .refl (.app .refl (.nil (.cons rfl .nil))))) ?_
  refine JU hT (fun hz hEz ap0 _=>?_)
  refine agG hO (fun hz2 agM hall=>?_)
  replace ap0:=ap0.ext agM
  have hEh:=hEz.trans agM
  have hgz:=hEh.1 _ _ hg
  have h4:(sv0::vs).length=4:=by simp[hvl]
  have hcase:∀i,i<4→∃(sv:Sv) (l:List Pn),(sv0::vs)[i]? =some sv∧Sl hz2 Pn.row sv.val l∧l.length≤20:=by
   intro i hi
   rcases i with _ | i
   ·exact⟨sv0,ps,rfl,by rw[←hs0];exact hf.ext hEh,arF⟩
   ·obtain⟨sv,hsv,-⟩:=has (show i<vs.length by omega)
    obtain⟨l,hl',-⟩:=has (show i<ls.length by rw[←hO.len];omega)
    exact⟨sv,l,by simpa using hsv,(hall i sv l hsv hl').1,by have:=hll l (List.mem_of_getElem? hl');omega⟩
  rw[h4]at ap0⊢
  refine W.seq<|W.seq<|W.region rfl<|agb rfl rfl rfl<|pq<|W.block ?_
  refine W.loop (σ:=Nat) (fun i=>i≤4) (fun i=>[(10,I i),(9,.slice at4 4 ct4),(2,I q)]) (fun _=>[]) (fun i=>4-i) 0 (Nat.zero_le _) ⟨rfl,rfl,rfl,trivial⟩ .refl ?_
  rintro i hi
  refine W.seq<|W.seq<|W.region rfl<|qm rfl rfl rfl<|qm rfl rfl rfl ?_
  refine agW (dM rfl rfl) rfl ?_
  refine agW (fO rfl rfl rfl) rfl ?_
  refine pq ?_
  refine W.bC rfl (fun c38=>?_) (fun c38=>?_)
  ·have hi4:i<4:=by omega
   obtain⟨sv,l,hsv,apH,ar_⟩:=hcase i hi4
   obtain⟨bb,off,c,E,fz,hv,hb,-,-,hzz⟩:=ap0.at hsv
   cases hv
   have hx0:c[off+i*1]? =some (.slice sv.a sv.n sv.cap):=hzz 0 (by decide)
   refine W.skip<|aA<|W.seq<|W.block<|W.seq<|W.region rfl<|qm rfl rfl rfl<|qm rfl rfl rfl ?_
   refine ag3 rfl ?_
   refine agX rfl ?_
   refine c0 (fun h' hE hL=>aij _ h' l _ (apH.ext hE) (by omega)) (fun v A' hv=>?_)
   obtain⟨Sw,hOw,arI⟩:=hv
   refine Ops.sb (F':=Sw++[]) (arI.app .refl) ?_
   obtain⟨aw,cw,rfl⟩:=hOw.dA
   refine agb rfl rfl rfl<|pq ?_
   refine W.sb (F':=Sw++[]) (by rw[List.append_nil];exact .refl) ?_
   refine JU hOw (fun hz3 hE3 ak6 hzw=>?_)
   replace apH:=apH.ext hE3
   replace hb:=hE3.1 _ _ hb
   refine W.seq<|W.seq<|W.region rfl<|agb rfl rfl rfl<|pq<|W.block ?_
   refine W.loop (σ:=Nat) (fun m=>m≤14) (fun m=>[(12,I ((m:Int)-1)),(11,.slice aw l.length cw),(10,I i),(9,.slice (some ⟨bb,off,none⟩) 4 ct4),(2,I q)]) (fun _=>[]) (fun m=>14-m) 0 (Nat.zero_le _) ⟨rfl,rfl,rfl,rfl,rfl,trivial⟩ .refl ?_
   rintro m hm
   refine W.seq<|W.seq<|W.region rfl<|qm rfl rfl rfl ?_
   refine agW (Lr rfl rfl rfl) rfl ?_
   refine pq ?_
   refine W.bC rfl (fun c47=>?_) (fun c47=>?_)
   ·have auK:m<14:=by omega
    refine W.skip<|aA<|W.seq<|W.block<|W.seq<|W.region rfl<|qm rfl rfl rfl<|agb rfl rfl rfl<|pq ?_
    refine W.seq ?_
    refine W.aiB (σ:=Int) (fun _=>True) (fun k=>[(13,I k),(12,I ((m:Int)-1)),(11,.slice aw l.length cw),(10,I i),(9,.slice (some ⟨bb,off,none⟩) 4 ct4),(2,I q)]) (fun _=>[]) ?_ ?_
    ·refine W.seq<|W.region rfl<|qm rfl rfl rfl ?_
     refine agW (fO rfl rfl rfl) rfl ?_
     refine pq ?_
     refine W.bC rfl (fun c52=>?_) (fun c52=>?_)
     ·refine W.region rfl<|qm rfl rfl rfl<|agb rfl rfl rfl<|Ops.nil ?_
      exact⟨rfl,rfl,_,trivial,⟨rfl,rfl,rfl,rfl,rfl,rfl,trivial⟩,.refl⟩
     ·refine W.skip ?_
      exact⟨rfl,rfl,_,trivial,⟨rfl,rfl,rfl,rfl,rfl,rfl,trivial⟩,.refl⟩
    ·intro k _
     refine W.seq<|W.region rfl<|qm rfl rfl rfl<|qm rfl rfl rfl ?_
     refine cp (fun h' hE hL=>Yy _ h' l _ k (ak6.ext hE)) ?_
     refine qm rfl rfl rfl<|oq (bD rfl rfl rfl) rfl wn rfl rfl<|oq (bD rfl rfl rfl) rfl wn rfl rfl<|agb rfl rfl rfl<|agb rfl rfl rfl<|pq<|W.seq<|W.region rfl<|qm rfl rfl rfl ?_
     refine qm rfl rfl rfl ?_
     refine ag3 rfl ?_
     refine agX rfl ?_
     refine qm rfl rfl rfl ?_
     refine cp (fun h' hE hL=>asY _ h' l _ k (apH.ext hE)) ?_
     refine qm rfl rfl rfl<|oq (bD rfl rfl rfl) rfl wn rfl rfl<|oq (bD rfl rfl rfl) rfl wn rfl rfl<|agb rfl rfl rfl<|agb rfl rfl rfl<|pq<|W.seq<|W.region rfl<|qm rfl rfl rfl ?_
     refine qm rfl rfl rfl ?_
     refine c0 (fun h' hE hL=>ai5 _ h' l _ k (ak6.ext hE)) (fun v A' hv=>?_)
     obtain⟨t3,St3,rfl,asv,aqP⟩:=hv
     refine Ops.sb (F':=St3++[]) (aqP.app .refl) ?_
     refine qm rfl rfl rfl<|oq (bD rfl rfl rfl) rfl wn rfl rfl<|oq (bD rfl rfl rfl) rfl wn rfl rfl<|agb rfl rfl rfl<|agb rfl rfl rfl<|pq<|W.seq<|W.region rfl<|qm rfl rfl rfl ?_
     refine qm rfl rfl rfl ?_
     refine ag3 rfl ?_
     refine agX rfl ?_
     refine qm rfl rfl rfl ?_
     refine c0 (fun h' hE hL=>asU _ h' l _ k (apH.ext hE)) (fun v A' hv=>?_)
     obtain⟨t4,St4,rfl,aqQ,aqR⟩:=hv
     refine Ops.sb (F':=St4++(St3++[])) (aqR.app .refl) ?_
     refine qm rfl rfl rfl<|oq (bD rfl rfl rfl) rfl wn rfl rfl<|oq (bD rfl rfl rfl) rfl wn rfl rfl<|agb rfl rfl rfl<|agb rfl rfl rfl<|pq<|W.seq<|W.region rfl<|qm rfl rfl rfl ?_
     refine qm rfl rfl rfl ?_
     refine KU (nG rfl rfl rfl) (congrArg Value.bool (show decide (((qh l k).1.2:Int)≠(qh l k).1.2)=false by simp)) rfl wn rfl rfl ?_
     refine qm rfl rfl rfl ?_
     refine oq (aN rfl rfl) rfl (ak rfl rfl rfl) rfl rfl ?_
     refine oq (aN rfl rfl) rfl (ak rfl rfl rfl) rfl rfl ?_
     refine KU (nG rfl rfl rfl) (congrArg Value.bool (show decide (((qh l k).2:Int)≠(qh l k).2)=false by simp)) rfl (ak rfl rfl rfl) rfl rfl ?_
     refine agW (iH rfl rfl rfl) rfl ?_
     refine qm rfl rfl rfl ?_
     refine oq (aN rfl rfl) rfl (ak rfl rfl rfl) rfl rfl ?_
     refine oq (aN rfl rfl) rfl (ak rfl rfl rfl) rfl rfl ?_
     refine KU (nG rfl rfl rfl) (congrArg Value.bool (show decide (((FoF l k).2:Int)≠(FoF l k).2)=false by simp)) rfl (ak rfl rfl rfl) rfl rfl ?_
     refine agW (iH rfl rfl rfl) rfl ?_
     refine qm rfl rfl rfl ?_
     refine oq (aN rfl rfl) rfl (ak rfl rfl rfl) rfl rfl ?_
     refine oq (aN rfl rfl) rfl (ak rfl rfl rfl) rfl rfl ?_
     refine cp (g:=some _) (fun h' hE hL=>VU _ h' (zs (FoF l k).1) (zs (FoF l k).1) _ _ (asv.sl fun b' o hb=>hL b' o (by simp[hb])) (aqQ.sl fun b' o hb=>hL b' o (by simp[hb])) (aty ar_)) ?_
     refine KU (xU rfl rfl) (congrArg Value.bool (show(!decide ((zs (FoF l k).1)=(zs (FoF l k).1)))=false by simp)) rfl (ak rfl rfl rfl) rfl rfl ?_
     refine agW (iH rfl rfl rfl) rfl ?_
     refine pq ?_
     refine W.bZ ?_
     refine W.skip<|dI<|aA<|W.region rfl<|qm rfl rfl rfl ?_
     refine ag1 rfl ?_
     refine agb rfl rfl rfl<|pq ?_
     exact⟨rfl,m+1,by omega,by omega,⟨lk rfl (show I _=I _ by congr 1;omega),rfl,rfl,rfl,rfl,trivial⟩,.left (.left .refl asv.shut) aqQ.shut⟩
   ·refine W.exit<|bP<|bP<|gG<|aA<|W.seq<|W.region rfl<|qm rfl rfl rfl ?_
    refine c0 (fun h' hE hL=>YB _ h' l _ hS hmb (ak6.ext hE) (hzw.ext hE)) (fun v A' hv=>?_)
    obtain⟨t5,rfl,ato⟩:=hv
    refine qm rfl rfl rfl<|oq (bD rfl rfl rfl) rfl wn rfl rfl<|oq (bD rfl rfl rfl) rfl wn rfl rfl<|agb rfl rfl rfl<|agb rfl rfl rfl<|pq<|W.seq<|W.region rfl<|qm rfl rfl rfl ?_
    refine qm rfl rfl rfl ?_
    refine ag3 rfl ?_
    refine agX rfl ?_
    refine c0 (fun h' hE hL=>as2 _ h' l _ (apH.ext hE)) (fun v A6 hv=>?_)
    obtain⟨t6,St6,rfl,atq,atr⟩:=hv
    refine Ops.sb (F':=St6++(A'++[])) (atr.app .refl) ?_
    have hcl:(if nV l=0 then zs (Oo l)else[]).length≤100000:=by
     split
     ·rw[kT,Oo];exact Nat.le_trans (List.length_filter_le ..) (by simp)
     ·simp
    refine qm rfl rfl rfl<|oq (bD rfl rfl rfl) rfl wn rfl rfl<|oq (bD rfl rfl rfl) rfl wn rfl rfl<|agb rfl rfl rfl<|agb rfl rfl rfl<|pq<|W.seq<|W.region rfl<|qm rfl rfl rfl ?_
    refine qm rfl rfl rfl ?_
    refine KU (nG rfl rfl rfl) (congrArg Value.bool (show decide ((nV l:Int)≠nV l)=false by simp)) rfl wn rfl rfl ?_
    refine qm rfl rfl rfl ?_
    refine oq (aN rfl rfl) rfl (ak rfl rfl rfl) rfl rfl ?_
    refine oq (aN rfl rfl) rfl (ak rfl rfl rfl) rfl rfl ?_
    refine cp (g:=some _) (fun h' hE hL=>VU _ h' _ _ _ _ (ato.sl fun b' o hb=>hL b' o (by simp[hb])) (atq.sl fun b' o hb=>hL b' o (by simp[hb])) hcl) ?_
    refine KU (xU rfl rfl) (congrArg Value.bool (by simp:(!decide ((if nV l=0 then zs (Oo l)else[])=(if nV l=0 then zs (Oo l)else[])))=false)) rfl (ak rfl rfl rfl) rfl rfl ?_
    refine agW (iH rfl rfl rfl) rfl ?_
    refine qm rfl rfl rfl ?_
    refine oq (aN rfl rfl) rfl (ak rfl rfl rfl) rfl rfl ?_
    refine oq (aN rfl rfl) rfl (ak rfl rfl rfl) rfl rfl ?_
    refine oq (aN rfl rfl) rfl (ak rfl rfl rfl) rfl rfl ?_
    first | refine oq (G_ rfl rfl rfl) rfl (ak rfl rfl rfl) rfl rfl ?_ | refine oq (o_ rfl rfl rfl) rfl (ak rfl rfl rfl) rfl rfl ?_
    refine oq (iQ rfl rfl) rfl (ak rfl rfl rfl) rfl rfl ?_
    refine cp (g:=some _) (fun h' hE hL=>apE _ h' l l _ _ (ak6.ext hE) (apH.ext hE) (by omega)) ?_
    refine KU (xU rfl rfl) (congrArg Value.bool (show(!decide (l=l))=false by simp)) rfl (ak rfl rfl rfl) rfl rfl ?_
    refine agW (iH rfl rfl rfl) rfl ?_
    refine pq ?_
    refine W.bZ ?_
    refine W.skip<|dI<|aA<|W.region rfl<|qm rfl rfl rfl ?_
    refine ag1 rfl ?_
    refine agb rfl rfl rfl<|pq ?_
    exact⟨rfl,i+1,by omega,by omega,⟨rfl,rfl,rfl,trivial⟩,.nil (atq.shut.app (ato.shut.app .nil))⟩
  ·refine W.exit<|bP<|bP<|gG<|aA<|W.seq<|W.region rfl ?_
   refine cp (fun h' hE hL=>VW _ h' hS hmb _ _ (hE.1 _ _ (by first | exact hgz | exact hg))) ?_
   refine agb rfl rfl rfl<|pq<|W.ret ?_
   exact lvq rfl
end Go.aS

/- Slices of structs of numbers, as they are handed in. Conditions: none; over any program. -/
namespace Go.aS
def aoW(P:Program)(t:TypeId)(w:Nat):Prop:=P.cellsOf t=w∧∀{H:Type} {enc:TypeId×Value→H} {W:World} {base:Nat} {spare:Nat→Bool} {held:Bool} {fuel:Nat} {cs:List Value} {x:DataW H×List MemPlace},DataW.trod enc P W base spare held fuel t cs=some x→∃ns:List Int,cs=ns.map nI∧ns.length=w
theorem aoW.int{P:Program}{t:TypeId}(ht:P.underlying t=some (.int .i64))(hc:P.cellsOf t=1):aoW P t 1:=⟨hc,fun h=>by
 obtain⟨n,rfl,-,-⟩:=DataW.trod_int ht h
 exact⟨[n],rfl,rfl⟩⟩
def aqg(P:Program):List Field→List Nat→Nat→Prop
 | [],[],_=>True
 | f::fs,w::ws,o=>f.offset=o∧aoW P f.type w∧aqg P fs ws (o+w)
 | _,_,_=>False
theorem apx{P:Program}{H:Type}{enc:TypeId×Value→H}{W:World}{base:Nat}{spare:Nat→Bool}{held:Bool}{n:Nat}{cs:List Value}:∀(fs:List Field) (ws:List Nat) (o:Nat),aqg P fs ws o→(∀f∈fs,∃x,DataW.trod enc P W base spare held n f.type ((cs.drop f.offset).take (P.cellsOf f.type))=some x)→o+ws.sum=cs.length→∃ns:List Int,cs.drop o=ns.map nI∧ns.length=ws.sum
 | [],[],o,_,_,hl=>⟨[],by simp at hl;simp;omega,rfl⟩
 | f::fs,w::ws,o,⟨ho,⟨hc,hr⟩,hrest⟩,hx,hl=>by
  obtain⟨x,h1⟩:=hx f (List.mem_cons_self ..)
  obtain⟨ns,h2,h3⟩:=hr h1
  rw[List.sum_cons]at hl
  obtain⟨ms,h4,h5⟩:=apx fs ws (o+w) hrest (fun g hg=>hx g (List.mem_cons_of_mem _ hg)) (by omega)
  subst ho
  rw[hc]at h2
  refine⟨ns++ms,?_,by rw[List.length_append,h3,h5,List.sum_cons]⟩
  rw[List.map_append,←h2,←h4,←List.drop_drop,List.take_append_drop]
 | [],_::_,_,h,_,_=>h.elim
 | _::_,[],_,h,_,_=>h.elim
theorem aoW.struct{P:Program}{t:TypeId}{fs:Array Field}{ws:List Nat}(ht:P.underlying t=some (.struct fs))(hl:aqg P fs.toList ws 0)(hc:P.cellsOf t=ws.sum):aoW P t ws.sum:=⟨hc,fun{H enc W base spare held fuel cs x} h=>by
 obtain⟨xs,n,-,-,h1,h2,h3⟩:=DataW.trod_struct ht h
 have:=apx (cs:=cs) fs.toList ws 0 hl (fun f hf=>by
  obtain⟨i,hi⟩:=List.mem_iff_getElem?.1 hf
  have hi':fs[i]? =some f:=by simpa using hi
  have hlt:i<xs.length:=by
   rw[h2]
   rcases Nat.lt_or_ge i fs.size with h | h
   ·exact h
   ·rw[Array.getElem?_eq_none h]at hi';cases hi'
  exact⟨xs[i],by rw[h3 i f hi',List.getElem?_eq_getElem hlt]⟩) (by omega)
 simpa using this⟩
theorem aoW.val{P:Program}{t w:Nat}(R:aoW P t w){H:Type}{enc:TypeId×Value→H}{W:World}{base:Nat}{spare:Nat→Bool}{held:Bool}{v:Value}{d:DataW H}{ps:List MemPlace}(h:DataW.Trod enc P W base spare held t v d ps):∃ns:List Int,v.cells.toList=ns.map nI∧ns.length=w:=by
 obtain⟨fuel,h⟩:=h
 exact R.2 h

theorem apB{W:World}{base n:Nat}{a:Addr}{cs:List Value}(h:W.cells? base a n=some cs):cs.length=n∧∀i,i<n→W.cell? (a.add i)=cs[i]? :=by
 unfold World.cells? at h
 split at h
 ·have h1:=mapM_some_length h
  rw[List.length_range]at h1
  exact⟨h1,fun i hi=>mapM_some_get h i i (by simp[hi])⟩
 ·cases h
theorem aoW.slice{P:Program}{e t w:Nat}(R:aoW P e w)(hw:0<w){α:Type}{row:α→List Value}[Rw row w](mk:∀ns:List Int,ns.length=w→∃p:α,row p=ns.map nI)(ht:P.underlying t=some (.slice e)){H:Type}{enc:TypeId×Value→H}{W:World}{base:Nat}{spare:Nat→Bool}{held:Bool}{v:Value}{fuel:Nat}{x:DataW H×List MemPlace}(hf:DataW.trod enc P W base spare held fuel t [v]=some x):∃l:List α,Sl (atStart W) row v l:=by
 rcases DataW.trod_slice ht hf with⟨hcs,-⟩ | ⟨a,len,cap,elems,rest,n,-,hcs,-,hb,hle,hm,hlen,hel,-,-⟩
 ·obtain rfl:v= .slice none 0 0:=by simpa using hcs
  exact⟨[],.nil⟩
 ·obtain rfl:v= .slice (some a) len cap:=by simpa using hcs
  rw[R.1]at hel
  have each:∀i,i<len→∃p:α,∀j,j<w→W.cell? ((a.add (i*w)).add j)=(row p)[j]? :=fun i hi=>by
   have h1:=hel i hi
   rw[List.getElem?_eq_getElem (by omega),Option.bind_eq_some_iff]at h1
   obtain⟨cs,h2,h3⟩:=h1
   obtain⟨ns,rfl,h4⟩:=R.2 h3
   obtain⟨p,hp⟩:=mk ns h4
   refine⟨p,fun j hj=>?_⟩
   rw[(apB h2).2 j hj,hp]
  have all:∀m,m≤len→∃l:List α,l.length=m∧∀i p,l[i]? =some p→∀j,j<w→W.cell? ((a.add (i*w)).add j)=(row p)[j]? :=by
   intro m
   induction m with
   | zero=>intro _;exact⟨[],rfl,fun i p hp=>by simp at hp⟩
   | succ m ih=>
    intro hm
    obtain⟨l,h1,h2⟩:=ih (by omega)
    obtain⟨p,hp⟩:=each m (by omega)
    refine⟨l++[p],by simp[h1],fun i q hq=>?_⟩
    rcases Nat.lt_or_ge i l.length with h | h
    ·rw[List.getElem?_append_left h]at hq;exact h2 i q hq
    ·have hlt:=lt_of_some hq
     simp at hlt
     have:i=m:=by omega
     subst this
     rw[List.getElem?_append_right h,show i-l.length=0 by omega]at hq
     simp at hq
     subst hq
     exact hp
  obtain⟨l,hl,hc⟩:=all len (Nat.le_refl _)
  refine⟨l,some a,cap,by rw[hl],fun hne=>?_⟩
  have hpos:0<len:=by
   rcases Nat.eq_zero_or_pos len with h | h
   ·subst h;exact absurd (List.eq_nil_of_length_eq_zero hl) hne
   ·exact h
  obtain⟨b,off,spot⟩:=a
  have hsp:spot=none:=by
   obtain⟨p,hp,-⟩:=has (show 0<l.length by omega)
   have h0:=hc 0 p hp 0 hw
   have hrw:(row p).length=w:=Rw.len p
   rw[List.getElem?_eq_getElem (by omega)]at h0
   cases hs:spot with
   | none=>rfl
   | some s=>
    subst hs
    exfalso
    simp only[Nat.zero_mul,World.cell?,Addr.add,if_true]at h0
    split at h0
    ·simp at h0
    ·cases h0
  subst hsp
  have cell:∀k,k<(flat row l).length→∃c E fz,W.heap[b]? =some (.cells c E fz)∧c[off+k]? =(flat row l)[k]? :=fun k hk=>by
   rw[jT]at hk
   have hi:k / w<l.length:=Nat.div_lt_of_lt_mul (by rw[Nat.mul_comm];exact hk)
   have hj:k % w<w:=Nat.mod_lt _ hw
   obtain⟨p,hp,-⟩:=has hi
   have h1:=hc _ p hp _ hj
   have hrw:(row p).length=w:=Rw.len p
   have e1:k / w*w+k % w=k:=Nat.div_add_mod' k w
   have h2:(flat row l)[k]? =(row p)[k % w]? :=by
    have hP:Part (flat row l).toArray 0 (flat row l):=Part.all _
    have h3:=hP.Bo hp (k % w) hj
    rw[Nat.zero_add,e1]at h3
    simpa using h3
   have ea:((⟨b,off,none⟩:Addr).add (k / w*w)).add (k % w)=⟨b,off+k,none⟩:=by
    have e2:(⟨b,off,none⟩:Addr).add (k / w*w)=⟨b,off+k / w*w,none⟩:=jE rfl _
    rw[e2,jE rfl]
    simp only[Addr.mk.injEq,true_and,and_true]
    omega
   rw[ea]at h1
   rw[h2]
   rw[List.getElem?_eq_getElem (show k % w<(row p).length by omega)]at h1⊢
   simp only[World.cell?]at h1
   split at h1
   ·rename_i c E fz hb
    exact⟨c,E,fz,hb,by simpa using h1⟩
   ·cases h1
  have hfl:=jT (row:=row) l
  have apK:0<(flat row l).length:=by rw[hfl];exact Nat.mul_pos (by omega) hw
  obtain⟨c,E,fz,hb',h0⟩:=cell 0 apK
  refine⟨b,off,c,E,fz,rfl,ku.2 ⟨hb',rfl⟩,Part.ace (fun j hj=>?_) (fun e=>by rw[e]at apK;simp at apK)⟩
  obtain⟨c',E',fz',hb2,hj'⟩:=cell j hj
  rw[hb']at hb2
  cases hb2
  exact hj'
end Go.aS

/- From a law of pans, lots and numbers that answers true to its card, time passing meanwhile. Conditions: as the cards say; over the given program. -/
namespace Go.aS
open Go.Proofs.YtkkdgffaohidnaaGreatDoor
set_option maxRecDepth 100000
set_option maxHeartbeats 4000000
section
open Go.ChangeShapes Go.WideShapes Go.RowKit
theorem aoX:aoW prog dL 1:=aoW.int VX VY
theorem apL:aoW prog Ag 3:=aoW.struct (ws:=[1,1,1]) (TD.out (t:=Ag)) ⟨rfl,aoX,rfl,aoX,rfl,aoX,trivial⟩ (by kernel_rfl)
theorem aqh:aoW prog XI 2:=aoW.struct (ws:=[1,1]) (TD.out (t:=XI)) ⟨rfl,aoX,rfl,aoX,trivial⟩ (by kernel_rfl)
theorem aqS:∀ns:List Int,ns.length=3→∃p:Pn,p.row=ns.map nI
 | [a,b,c],_=>⟨⟨a,b,c⟩,rfl⟩
theorem mkLt:∀ns:List Int,ns.length=2→∃p:Lt,p.row=ns.map nI
 | [a,b],_=>⟨⟨a,b⟩,rfl⟩
theorem mkI:∀ns:List Int,ns.length=1→∃p:Int,fH p=ns.map nI
 | [a],_=>⟨a,rfl⟩

structure ap8(h:Hp)(t:TypeId)(v:Value):Prop where
 arK:t=aoG→∃l,Sl h Pn.row v l
 pan:t=Ag→∃p:Pn,v=p.val
 lots:t=apa→∃l,Sl h Lt.row v l
 int:t=dL→∃n,v=I n
 ints:t=nS→∃l,Sl h fH v l
def apv(h:Hp):List TypeId→List Value→Prop
 | [],[]=>True
 | t::ts,v::vs=>ap8 h t v∧apv h ts vs
 | _,_=>False
theorem aqi{H:Type}{enc:TypeId×Value→H}{W:World}{n:Nat}{t:TypeId}{v:Value}{d:DataW H}{ps:List MemPlace}(hv:Value.okWide prog W .any n t v)(h:DataW.Trod enc prog W 0 (fun _=>true) true t v d ps):ap8 (atStart W) t v:=by
 refine⟨?_,?_,?_,?_,?_⟩
 ·rintro rfl
  obtain⟨a,len,cap,rfl⟩:=okWide_slice (TD.out (t:=aoG)) hv
  obtain⟨fuel,h⟩:=h
  exact apL.slice (row:=Pn.row) (by decide) aqS (TD.out (t:=aoG)) h
 ·rintro rfl
  obtain⟨cs,rfl,hc⟩:=okWide_struct (TD.out (t:=Ag)) hv
  obtain⟨ns,h1,h2⟩:=apL.val h
  obtain⟨p,hp⟩:=aqS ns h2
  refine⟨p,?_⟩
  have:cs.toList=p.row:=by rw[hp];exact h1
  rw[show cs=p.row.toArray by rw[←this]]
  rfl
 ·rintro rfl
  obtain⟨a,len,cap,rfl⟩:=okWide_slice (TD.out (t:=apa)) hv
  obtain⟨fuel,h⟩:=h
  exact aqh.slice (row:=Lt.row) (by decide) mkLt (TD.out (t:=apa)) h
 ·rintro rfl
  obtain⟨ns,h1,h2⟩:=aoX.val h
  obtain⟨n,rfl⟩:=okWide_int VX hv
  exact⟨n,rfl⟩
 ·rintro rfl
  obtain⟨a,len,cap,rfl⟩:=okWide_slice EX hv
  obtain⟨fuel,h⟩:=h
  exact aoX.slice (row:=fH) (by decide) mkI EX h
theorem apC{H:Type}{enc:TypeId×Value→H}{W:World}{n:Nat}:∀{ts:List TypeId} {vs:List Value} {ds:List (DataW H)} {ps:List MemPlace},(∀(j:Nat) t v,ts[j]? =some t→vs[j]? =some v→Value.okWide prog W .any n t v)→DataW.TrodAll enc prog W 0 (fun _=>true) true ts vs ds ps→apv (atStart W) ts vs∧ds.length=ts.length
 | [],[],ds,ps,_,h=>by
  cases ds with
  | nil=>exact⟨trivial,rfl⟩
  | cons d ds=>exact h.elim
 | [],_::_,_,_,_,h=>h.elim
 | _::_,[],_,_,_,h=>h.elim
 | t::ts,v::vs,[],_,_,h=>h.elim
 | t::ts,v::vs,d::ds,ps,hv,h=>by
  obtain⟨p,q,h1,h2,-⟩:=h
  obtain⟨h3,h4⟩:=apC (fun j t v a b=>hv (j+1) t v (by simpa using a) (by simpa using b)) h2
  exact⟨⟨aqi (hv 0 t v rfl rfl) h1,h3⟩,by simp[h4]⟩
theorem apt{H:Type}{enc:TypeId×Value→H}{W W':World}(hb:Below W.heap.size W W'):∀{ts:List TypeId} {vs:List Value} {ds:List (DataW H)} {ps:List MemPlace},(∀t∈ts,prog.readableRec t=true∧t<prog.types.size)→DataW.TrodAll enc prog W 0 (fun _=>true) true ts vs ds ps→(∀x∈ps,x.block<W.heap.size)→DataW.TrodAll enc prog W' 0 (fun b=>decide (b<W.heap.size)) true ts vs ds ps
 | [],[],ds,ps,_,h,_=>by
  cases ds with
  | nil=>exact h
  | cons d ds=>exact h.elim
 | [],_::_,_,_,_,h,_=>h.elim
 | _::_,[],_,_,_,h,_=>h.elim
 | t::ts,v::vs,[],_,_,h,_=>h.elim
 | t::ts,v::vs,d::ds,ps,ht,h,hlt=>by
  obtain⟨p,q,h1,h2,rfl⟩:=h
  exact⟨p,q,Below.trod YR (ht t (List.mem_cons_self ..)).1 (ht t (List.mem_cons_self ..)).2 h1 hb (fun x hx=>hlt x (List.mem_append_left _ hx)),apt hb (fun t h=>ht t (List.mem_cons_of_mem _ h)) h2 (fun x hx=>hlt x (List.mem_append_right _ hx)),rfl⟩
theorem aqT{s:ChangeSpec}{f:FuncId}{fn:Func}(os:Go.Os)(started:os.Started)(H:Type)(enc:TypeId×Value→H)(hfn:prog.funcs[f]? =some fn)(hinit:prog.inits.idxOf? f=none)(ts:List TypeId)(hp:fn.params.toList=ts)(hts:∀t∈ts,prog.readableRec t=true∧t<prog.types.size)(hr:fn.resultTypes.toList=[RS])(hrs:fn.resultTypes.size=1)(hv:s.vars=[])
  (hs:∀ds:List (DataW H),ds.length=ts.length→s.fn H ds={results:=[.lit (.bool true)],args:=ds})
  (
   witness:∃(w:World) (tape:Tape) (i:Input),w.os=os∧(w.forCall tape i).Shaped prog∧i.vars=[]∧Input.okWide prog (w.forCall tape i) .any w.heap.size f i∧
   ((s.pre enc prog fn [] false (w.forCall tape i).memory i.args∧laidMetH prog J9 (w.forCall tape i).memory)∧sizedMet enc prog fn (OpenSpec.ofChange s) false (w.forCall tape i).memory i.args)∧({calm:=true}:Assume).holds prog (lone (Frame.enter prog f i.args .normal) [] (w.forCall tape i)))
  (T:∀(main:Side) (_:∀S,main.ok S→∃Fin,S=Mo prog Fin) (_:main.b=true) (h:Hp) (args:List Value) (_:apv h ts args) (Eg:TypeId) (zg:Nat×Nat) (_:h 0=some (.cells #[Ur qM] Eg zg)) (_:h.z 0),QE prog main f args.toArray h (.bool true))
  (F:Stop.Interp):ReturnsInLeavingWide {calm:=true} Go.Proofs.Tryz.checked os f .any (fun w args=>(s.pre enc prog fn [] false w args∧laidMetH prog J9 w)∧sizedMet enc prog fn (OpenSpec.ofChange s) false w args) ((OpenSpec.ofChange s).postWith enc prog fn F (outsideKept [.timePasses]) false true false):=by
 refine returnsInLeavingWide_of_good (C:=Go.Proofs.Tryz.checked) afH started witness ?_
 intro w tape i _ _ _ hok hpre _
 obtain⟨_,_,_,fn',hfn',_,_,_,_,hval0⟩:=hok
 have e:fn'=fn:=Option.some.inj (hfn'.symm.trans hfn)
 subst e
 obtain⟨⟨⟨ds,gs,before,hw,-⟩,hx⟩,-⟩:=hpre
 have hW:=DataW.Whole.of_heap (w':=w.forCall tape i) (by rfl) hw
 have hL:laidMetH prog J9 (w.forCall tape i):=Ld (by rfl) hx
 generalize w.forCall tape i=W at*
 have hval:∀(j:Nat) t v,fn'.params[j]? =some t→i.args[j]? =some v→Value.okWide prog W .any w.heap.size t v:=hval0
 have hW':=hW
 obtain⟨p,q,hA0,hV,rfl,_,_⟩:=hW
 have hA:DataW.TrodAll enc prog W 0 (fun _=>true) true fn'.params.toList i.args.toList ds p:=hA0
 rw[hp]at hA
 obtain⟨hao,hdl⟩:=apC (n:=w.heap.size) (fun j t v a b=>hval j t v (by rw[←Array.getElem?_toList,hp];exact a) (by rw[←Array.getElem?_toList];exact b)) hA
 rw[hv]at hV
 obtain⟨rfl,rfl⟩:=trodVars_none hV
 simp only[List.append_nil]at hW'
 have hlt:∀x∈p,x.block<W.heap.size:=fun x hx=>by simpa using hW'.lt x hx
 obtain⟨E,z,hg⟩:=aaH hL
 have hgs:atStart W 0=some (.cells #[Ur qM] E z):=ku.2 ⟨hg,rfl⟩
 obtain⟨M,last,o,w',t',h1,h2,h3,h4⟩:=QE.run hinit (T (GI prog (tZ prog fun v _=>v= .bool true)) (fun S h=>⟨_,h⟩) rfl (atStart W) i.args.toList hao E z hgs ⟨_,hg,rfl⟩)
 refine⟨M,last,o,w',t',h1,h2,h3,h4.mono fun v hF=>?_⟩
 obtain⟨rfl,hk⟩:=hF
 have hb:=hk.below
 refine postWith_blind (postWith_of_post ⟨ds,[],p,[],p,[],hW',?_,?_,?_,hb.frame _,fun h=>by cases h⟩ hk.os)
 ·have hrl:Value.resultList fn'.resultTypes.size (.bool true)=[.bool true]:=by rw[hrs];rfl
  rw[List.append_nil,hs ds hdl,hrl,hr];exact trodAll_mk1 (shut_bool SS true)
 ·rw[List.append_nil,hs ds hdl,hp]
  exact apt hb hts hA hlt
 ·rw[List.append_nil,hs ds hdl,hv];rfl
end
end Go.aS

/- SyrupCounts's card. Conditions: as the card says; over the given program. -/
namespace Go.Proofs.YtkkdgffaohidnaaGreatDoor
open Go Go.aS
set_option maxRecDepth 100000
set_option maxHeartbeats 4000000
theorem asb(main:Side)(hS:∀S,main.ok S→∃Fin,S=Mo prog Fin)(hmb:main.b=true)(h:Hp):∀(args:List Value) (_:apv h [aoG,Ag,dL,nS] args) (Eg:TypeId) (zg:Nat×Nat) (_:h 0=some (.cells #[Ur qM] Eg zg)) (_:h.z 0),QE prog main arl args.toArray h (.bool true)
 | [v0,v1,v2,v3],⟨h0,h1,h2,h3,_⟩,Eg,zg,hg,z0=>by
  obtain⟨ps0,hp0⟩:=h0.arK rfl
  obtain⟨p1,rfl⟩:=h1.pan rfl
  obtain⟨n2,rfl⟩:=h2.int rfl
  obtain⟨x3,hx3⟩:=h3.ints rfl
  apply asw main hS hmb h
  all_goals first | assumption | exact hg | exact z0
 | [],h,_,_,_,_=>h.elim
 | [v0],⟨h0,h⟩,_,_,_,_=>h.elim
 | [v0,v1],⟨h0,h1,h⟩,_,_,_,_=>h.elim
 | [v0,v1,v2],⟨h0,h1,h2,h⟩,_,_,_,_=>h.elim
 | v0::v1::v2::v3::v4::r,⟨h0,h1,h2,h3,h⟩,_,_,_,_=>h.elim
theorem ar7:joinedFacts prog arl arL Rows.syrupCountsSpec Rows.syrupCountsRow=true:=by
 unfold joinedFacts
 repeat' with_reducible refine Bool.and_eq_true_iff.2 ⟨?_,?_⟩
 all_goals first
  | with_reducible exact aci
  | (with_reducible refine makeT ?_;kernel_rfl)
  | (with_reducible refine aeb ?_;kernel_rfl)
  | (as_aux_lemma=>kernel_rfl)
theorem ar2:prog.funcNamed Rows.syrupCountsRow.func=some arl:=by kernel_rfl
theorem asg:prog.mainIs=some (true, "dbc29bbb9727fbebaf7429f7266f9d82b5a02ec0969210b724e1ed2dac66cc8d".toList):=ad9
theorem ash:true=Rows.syrupCountsRow.goesBy prog:=by kernel_rfl
theorem asa:true=prog.looks []:=by kernel_rfl
theorem asC:Rows.SyrupCountsSaid:=
 OpenClaim.holds_of_wide_leaving_time arl arL rfl rfl rfl rfl rfl rfl rfl ⟨rfl,rfl,rfl,rfl,rfl⟩ rfl rfl rfl rfl rfl ar2 arT ar7
  (of_decide_eq_true (by kernel_rfl)) (by unfold Func.isWrapper;first | (rw[if_pos (by decide+kernel)];kernel_rfl) | (rw[if_neg (by decide+kernel)];exact⟨rfl,rfl⟩))
  (
   fun os started H enc _ F=>aqT (s:=Rows.syrupCountsSpec) os started H enc arT (by kernel_rfl) [aoG,Ag,dL,nS] (by kernel_rfl) (fun t ht=>by
    have h0:([aoG,Ag,dL,nS]:List TypeId).all (fun t=>prog.readableRec t&&Nat.blt t prog.types.size)=true:=by kernel_rfl
    have h1:=List.all_eq_true.1 h0 t ht
    rw[Bool.and_eq_true]at h1
    exact⟨h1.1,Nat.le_of_ble_eq_true h1.2⟩) (by kernel_rfl) (by kernel_rfl) rfl (fun ds hd=>by
    match ds,hd with
    | [d0,d1,d2,d3],_=>rfl)
   (OB (enc:=enc) (C:=Tryz.checked) (os:=os) (X:=fun w _=>laidMetH prog J9 w) (laidWorld os) #[.slice none 0 0,.agg #[I 0,I 0,I 0],I 0,.slice none 0 0] 8 rfl (by kernel_rfl) (by kernel_rfl) (by kernel_rfl) (by kernel_rfl) (by kernel_rfl) (laidWorld_met os _))
   (fun main hS hmb h args ha Eg zg hg z0=>asb main hS hmb h args ha Eg zg hg z0) F)

theorem SyrupCounts_card:Rows.SyrupCountsCardSaid:=
 VZ .later [] [.handle] true (true, "dbc29bbb9727fbebaf7429f7266f9d82b5a02ec0969210b724e1ed2dac66cc8d") true
  asC (fun _ h=>by cases h) (by kernel_rfl) (fun _ h=>by cases h) syrupCounts_row_tie rfl ⟨rfl,rfl⟩ asg rfl
  (
   fun f fn hf hfn=>by
   obtain rfl:f=arl:=(Option.some.inj (ar2.symm.trans hf)).symm
   obtain rfl:fn=arL:=(Option.some.inj (arT.symm.trans hfn)).symm
   exact⟨asa,fun j t ht=>by
    rw[show(arL).params= #[aoG,Ag,dL,nS] by kernel_rfl]at ht
    have h3:([aoG,Ag,dL,nS]:List TypeId).all (fun t=> !prog.wantsStandIn t)=true:=by kernel_rfl
    have h4:=List.all_eq_true.1 h3 t (List.mem_of_getElem? (by simpa using ht))
    exact(show prog.wantsStandIn t=false by simpa using h4)⟩)
  ash
#print axioms SyrupCounts_card
end Go.Proofs.YtkkdgffaohidnaaGreatDoor
