/- Room; a cone that is not put in; how many are; the best so far. Conditions: none; over the given program. (And 17 texts more.) -/
import Derived.Test.YtahkljmgmgacjaaDoorR09
import Derived.Test.YtahkljmgmgacjaaDoorR08
import Derived.Test.YtahkljmgmgacjaaDoorR06
set_option linter.unusedVariables false
set_option linter.unusedSimpArgs false
set_option linter.unusedSectionVars false

/- Room; a cone that is not put in; how many are; the best so far. Conditions: none; over the given program. -/
namespace Go.aS
set_option maxRecDepth 100000
set_option maxHeartbeats 4000000
theorem aIN{sh:List Shf}{hs:List Int}{q:List Nat}{k d:Nat}(hk:k<sh.length)(hd:d<hs.length)(h:(shA sh k).ro<((aDH (q.getD (k*4+d) 0)).length:Int)):aCG sh hs q=false:=by
 cases e:aCG sh hs q with
 | false=>rfl
 | true=>
  simp only[aCG,List.all_eq_true,List.mem_range,Bool.not_eq_true',decide_eq_false_iff_not]at e
  exact absurd h (e k hk d hd)
theorem aIg{sh:List Shf}{hs:List Int}{q:List Nat}(h:∀k,k<sh.length→∀d,d<hs.length→¬(shA sh k).ro<((aDH (q.getD (k*4+d) 0)).length:Int)):aCG sh hs q=true:=by
 simp only[aCG,List.all_eq_true,List.mem_range,Bool.not_eq_true',decide_eq_false_iff_not]
 exact h
theorem aHW(main:Side)(h:Hp)(sh:List Shf)(cn:List Cne)(hs:List Int)(vs vc vh:Value)(bs:Nat)(cs:Array Value)(Es:TypeId)(zs:Nat×Nat)(hS:StF cs vs vc vh hs.length)(hbs:h bs=some (.cells cs Es zs))(h1:Sl h Shf.row vs sh)(hok:aCr sh cn hs)(q:List Nat)(hq:QOK q):Pu prog main aDg #[bI bs,.agg (qC q)] h (.bool (aCG sh hs q)):=by
 have hc0:=hS.c0
 have hc2:=hS.c2
 have hd4:=hok.d4
 have hs3:=hok.s3
 obtain⟨a1,cap1,rfl⟩:=h1.dA
 have hsz:(qC q).size=12:=by rw[aDY,hq.len]
 refine dV.aG aEw rfl (by show 2≤39;decide) [(0,bI bs),(1,.agg (qC q))] ⟨rfl,rfl,trivial⟩ ?_
 refine W.seq<|W.region rfl ?_
 refine Ops.box (cs:=qC q) (fun uU=>?_)
 refine agb rfl rfl rfl<|pq<|W.seq<|W.seq<|W.region rfl<|qm rfl rfl rfl ?_
 refine ag4 rfl ?_
 refine agY rfl ?_
 refine agY rfl ?_
 refine agX rfl ?_
 refine agW (dM rfl rfl) rfl ?_
 refine qm rfl rfl rfl<|pq<|W.block ?_
 refine W.loop (σ:=Nat) (fun k=>k≤sh.length∧∀k',k'<k→∀d,d<hs.length→¬(shA sh k').ro<((aDH (q.getD (k'*4+d) 0)).length:Int)) (fun k=>[(14,I k),(13,I sh.length),(12,.slice a1 sh.length cap1),(0,bI bs),(3,bI uU)]) (fun _=>[(uU,.cells (qC q) Pn (0,0))]) (fun k=>sh.length-k) 0 ⟨Nat.zero_le _,fun k' hk'=>absurd hk' (by omega)⟩ ⟨rfl,rfl,rfl,rfl,rfl,trivial⟩ .refl ?_
 rintro k ⟨hk,hp⟩
 refine W.seq<|W.region rfl ?_
 refine agW (fO rfl rfl rfl) rfl ?_
 refine pq<|W.seq ?_
 refine W.bC rfl (fun c15=>?_) (fun c15=>?_)
 ·have hkl:k<sh.length:=by omega
  have hsk:=aHD hkl
  have hso:=hok.Ij _ (List.mem_of_getElem? hsk)
  obtain⟨b,off,c,E,fz,e1,hb,hx,hy,hw⟩:=h1.at hsk
  cases e1
  have hx':c.extract (off+k*2) (off+k*2+2)= #[I (shA sh k).li,I (shA sh k).ro]:=hx
  clear hx hw
  refine W.skip<|aA<|W.seq<|W.block<|W.seq<|W.region rfl<|qm rfl rfl rfl ?_
  refine ag3 rfl ?_
  first | refine ag2 rfl ?_ | refine agW (ady rfl rfl) rfl ?_
  refine Ops.new (fun yC=>?_)
  refine agb rfl rfl rfl ?_
  first | refine Ops.jP ?_ | refine Ops.nY ?_
  refine pq<|W.seq<|W.region rfl<|qm rfl rfl rfl ?_
  refine ag4 rfl ?_
  refine agY rfl ?_
  refine agY rfl ?_
  refine agX rfl ?_
  refine qm rfl rfl rfl<|pq<|W.block ?_
  refine W.loop (σ:=Nat) (fun d=>d≤hs.length∧∀d',d'<d→¬(shA sh k).ro<((aDH (q.getD (k*4+d') 0)).length:Int)) (fun d=>[(24,I d),(23,I hs.length),(14,I k),(13,I sh.length),(12,.slice (some ⟨b,off,none⟩) sh.length cap1),(0,bI bs),(3,bI uU),(6,bI yC),(5,I k)]) (fun _=>[(yC,.cells #[I (shA sh k).li,I (shA sh k).ro] aDU (0,0)),(uU,.cells (qC q) Pn (0,0))]) (fun d=>hs.length-d) 0 ⟨Nat.zero_le _,fun k' hk'=>absurd hk' (by omega)⟩ ⟨rfl,rfl,rfl,rfl,rfl,rfl,rfl,rfl,rfl,trivial⟩ .refl ?_
  rintro d ⟨hd,hpd⟩
  refine W.seq<|W.region rfl ?_
  refine agW (fO rfl rfl rfl) rfl ?_
  refine pq<|W.seq ?_
  refine W.bC rfl (fun c25=>?_) (fun c25=>?_)
  ·have hdl:d<hs.length:=by omega
   have hq8:=hq.at (k*4+d)
   have hat:(qC q)[0+k*4+d*1]? =some (B8 (q.getD (k*4+d) 0)):=by
    rw[show 0+k*4+d*1=k*4+d by omega];exact aIL (by rw[hq.len];omega)
   have hl3:=aGb (c:=q.getD (k*4+d) 0)
   refine W.skip<|aA<|W.seq<|W.block<|W.seq<|W.region rfl<|qm rfl rfl rfl<|agb rfl rfl rfl<|pq ?_
   refine W.seq ?_
   refine W.rE (n:=10) rfl ?_
   refine xq 0 (aN rfl rfl) rfl ?_
   refine xq 1 (aN rfl rfl) rfl ?_
   first | refine xq 2 (UN rfl rfl rfl) rfl ?_ | refine xq 2 (Qg rfl rfl rfl) rfl ?_
   first | refine xq 3 (UN rfl rfl rfl) rfl ?_ | refine xq 3 (Qg rfl rfl rfl) rfl ?_
   refine xq 4 (iQ rfl rfl) rfl ?_
   refine xq 7 (ay rfl rfl) rfl ?_
   refine xq 8 (iQ rfl rfl) rfl ?_
   refine ae (i:=5) rfl an rfl rfl (lQ (args:=[_]) rfl rfl (fun h' hE hL=>aHh _ h' _ hq8) (fun v A' hv=>?_))
   refine⟨.inr (Keeps.app Keeps.refl),?_⟩
   have hvs:=hv.shut
   obtain⟨av,cv,rfl⟩:=hv.dA
   rw[aHe]
   refine Any.sb (F':=[(yC,.cells #[I (shA sh k).li,I (shA sh k).ro] aDU (0,0)),(uU,.cells (qC q) Pn (0,0))]) (.left .refl hvs) ?_
   refine xq 6 (dM rfl rfl) rfl ?_
   refine xq 9 (rC rfl rfl rfl) rfl ?_
   refine az ?_
   refine aA ?_
   refine W.bC rfl (fun c36=>?_) (fun c36=>?_)
   ·refine W.seq<|W.region rfl<|agb rfl rfl rfl<|pq<|W.ret<|cZ<|aY<|aY<|cZ ?_
    refine cZ<|aY<|aY<|cZ<|aY ?_
    refine uZ ?_
    rw[aIN hkl hdl (by omega)];rfl
   ·refine W.skip<|dI<|aA<|W.region rfl ?_
    refine ag1 rfl ?_
    refine qm rfl rfl rfl<|pq ?_
    refine⟨rfl,d+1,⟨by omega,fun d' hd'=>?_⟩,by omega,⟨rfl,rfl,rfl,rfl,rfl,rfl,rfl,rfl,rfl,trivial⟩,TW⟩
    rcases(by omega:d'<d∨d'=d)with h' | rfl
    ·exact hpd d' h'
    ·omega
  ·obtain rfl:d=hs.length:=by omega
   refine W.exit<|bP<|bP<|gG<|dI<|aA<|W.region rfl ?_
   refine ag1 rfl ?_
   refine qm rfl rfl rfl<|pq ?_
   refine⟨rfl,k+1,⟨by omega,fun k' hk'=>?_⟩,by omega,⟨rfl,rfl,rfl,rfl,rfl,trivial⟩,.skip rfl .refl⟩
   rcases(by omega:k'<k∨k'=k)with h' | rfl
   ·exact hp k' h'
   ·exact hpd
 ·obtain rfl:k=sh.length:=by omega
  refine W.exit<|bP<|bP<|gG<|aA<|W.seq<|W.region rfl<|agb rfl rfl rfl<|pq ?_
  refine W.ret ?_
  refine uZ ?_
  rw[aIg hp];rfl
theorem aIh(main:Side)(h:Hp)(bs bq i:Nat):Pu prog main aB1 #[bI bs,bI bq,I i,off.val] h (.tuple #[]):=by
 refine dV.aG aDf rfl (by show 4≤83;decide) [(0,bI bs),(1,bI bq),(2,I i),(3,.agg #[I (-1),I 0])] ⟨rfl,rfl,rfl,rfl,trivial⟩ ?_
 refine W.seq<|W.region rfl ?_
 refine Ops.box (fun Vo=>?_)
 refine pq<|W.seq<|W.seq<|W.region rfl ?_
 refine agY rfl ?_
 refine agX rfl ?_
 refine KU (nD rfl rfl rfl) (show Value.bool (decide ((-1:Int)= -1))= .bool true from rfl) rfl wn rfl rfl ?_
 refine pq ?_
 refine W.dW ?_
 refine W.seq<|W.region rfl ?_
 refine agY rfl ?_
 refine agX rfl ?_
 refine KU (nD rfl rfl rfl) (show Value.bool (decide ((0:Int)=0))= .bool true from rfl) rfl wn rfl rfl ?_
 refine cp (fun h' hE hL=>aGZ _ _ _) ?_
 refine pq<|W.ret<|aY ?_
 exact uZ rfl
end Go.aS

/- Where in a list made of lists. Conditions: none. -/
namespace Go.aS
theorem aDI{α:Type}{f:Nat→List α}:∀{n k j:Nat},k<n→j<(f k).length→((List.range n).flatMap f)[((List.range k).flatMap f).length+j]? =(f k)[j]?
 | 0,k,j,hk,_=>by omega
 | n+1,k,j,hk,hj=>by
  rw[List.range_succ,List.flatMap_append]
  rcases(by omega:k<n∨k=n)with h | rfl
  ·have ih:=aDI (f:=f) h hj
   have hlt:((List.range k).flatMap f).length+j<((List.range n).flatMap f).length:=by
    rcases Nat.lt_or_ge (((List.range k).flatMap f).length+j) ((List.range n).flatMap f).length with h' | h'
    ·exact h'
    ·rw[List.getElem?_eq_none h',List.getElem?_eq_getElem hj]at ih;cases ih
   rw[List.getElem?_append_left hlt,ih]
  ·rw[List.getElem?_append_right (by omega)]
   simp
theorem aDu{α:Type}{f:Nat→List α}{k:Nat}:((List.range (k+1)).flatMap f).length=((List.range k).flatMap f).length+(f k).length:=by
 rw[List.range_succ,List.flatMap_append,List.length_append];simp
def gD(sh:List Shf)(c:Cne)(hs:List Int)(k d:Nat):List Sd:=if aFj sh c hs k d then[⟨k,d⟩]else[]
def aDZ(sh:List Shf)(c:Cne)(hs:List Int)(k d:Nat):Nat:=((List.range k).flatMap (aGx sh c hs)).length+((List.range d).flatMap (gD sh c hs k)).length
theorem pos_at{sh:List Shf}{c:Cne}{hs:List Int}{k d:Nat}(hk:k<sh.length)(hd:d<hs.length)(h:aFj sh c hs k d=true):(aB8 sh c hs)[aDZ sh c hs k d]? =some ⟨k,d⟩:=by
 have h1:=aDI (f:=gD sh c hs k) hd (j:=0) (by simp[gD,h])
 rw[Nat.add_zero]at h1
 have e:gD sh c hs k d=[⟨k,d⟩]:=by simp[gD,h]
 rw[e]at h1
 have hlt:((List.range d).flatMap (gD sh c hs k)).length<(aGx sh c hs k).length:=by
  have h1':(aGx sh c hs k)[((List.range d).flatMap (gD sh c hs k)).length]? =some ⟨k,d⟩:=h1
  rcases Nat.lt_or_ge ((List.range d).flatMap (gD sh c hs k)).length (aGx sh c hs k).length with h' | h'
  ·exact h'
  ·rw[List.getElem?_eq_none h']at h1';cases h1'
 have h2:=aDI (f:=aGx sh c hs) hk hlt
 unfold aDZ aB8
 rw[h2];exact h1
theorem aG1{sh:List Shf}{c:Cne}{hs:List Int}{k d:Nat}(h:aFj sh c hs k d=true):aDZ sh c hs k (d+1)=aDZ sh c hs k d+1:=by
 unfold aDZ;rw[aDu];simp[gD,h];omega
theorem aIO{sh:List Shf}{c:Cne}{hs:List Int}{k d:Nat}(h:aFj sh c hs k d=false):aDZ sh c hs k (d+1)=aDZ sh c hs k d:=by
 unfold aDZ;rw[aDu];simp[gD,h]
theorem aJf{sh:List Shf}{c:Cne}{hs:List Int}{k:Nat}:aDZ sh c hs k hs.length=aDZ sh c hs (k+1) 0:=by
 unfold aDZ;rw[aDu];rfl
theorem aJg{sh:List Shf}{c:Cne}{hs:List Int}:aDZ sh c hs sh.length 0=(aB8 sh c hs).length:=by simp[aDZ,aB8]
theorem aKh{sh:List Shf}{c:Cne}{hs:List Int}:aDZ sh c hs 0 0=0:=by simp[aDZ]
end Go.aS

/- Maps whose keys are of numbers alone. Conditions: none; over any program. -/
namespace Go.aS
def Sr(P:Program)(t:TypeId)(w K:Nat):Prop:=∀{h:Hp} {F:ah} {β:Type} {f:Unit→Sem β} {Q:β→ah→Prop} (em:Bool) (d:Nat) {xs:Array Value} {off:Nat} {us:List Int},us.length=w→Part xs off (us.map nI)→
 tr P h ((part t xs off).bind fun x=>(Instr.checkKey em (d+K) t x).bind f) F Q=tr P h (f ()) F Q
def CkV(P:Program)(t:TypeId)(w K:Nat):Prop:=∀{h:Hp} {F:ah} {β:Type} {f:Unit→Sem β} {Q:β→ah→Prop} (em:Bool) (d:Nat) {us:List Int},us.length=w→
 tr P h ((Instr.checkKey em (d+K) t (.agg (us.map nI).toArray)).bind f) F Q=tr P h (f ()) F Q
theorem Sr.int{P:Program}{t:TypeId}[TD P t (.int .i64)][SC P t]:Sr P t 1 1:=by
 intro hp F β f Q em d xs off us h1 h3
 obtain⟨a,rfl⟩:=List.length_eq_one_iff.1 h1
 have e1:xs[off]? =some (nI a):=h3.get (j:=0) (by simp)
 rw[lT e1]
 simp only[Instr.checkKey,bind_eq,au,bind_assoc,bind_pure,aC]
theorem CkV.at{P:Program}{t w K:Nat}(H:CkV P t w K)[AG P t w]:Sr P t w K:=by
 intro hp F β f Q em d xs off us h1 h3
 have e1:=h3.extract
 rw[List.length_map,h1]at e1
 rw[ru,e1]
 exact H em d h1
theorem CkV.le{P:Program}{t w K K':Nat}(H:CkV P t w K)(h:K≤K'):CkV P t w K':=by
 intro hp F β f Q em d us h1
 have:= @H hp F β f Q em (d+(K'-K)) us h1
 rwa[show d+(K'-K)+K=d+K' by omega]at this

def Qi(P:Program)(K:Nat):List Field→List Nat→Nat→Prop
 | [],[],_=>True
 | f::fs,w::ws,o=>f.name≠ "_" ∧f.offset=o∧Sr P f.type w K∧Qi P K fs ws (o+w)
 | _,_,_=>False
theorem Qi.nil{P:Program}{K o:Nat}:Qi P K [] [] o:=trivial
theorem Qi.cons{P:Program}{K o w:Nat}{f:Field}{fs:List Field}{ws:List Nat}(hn:f.name≠ "_")(ho:f.offset=o)(he:Sr P f.type w K)(hl:Qi P K fs ws (o+w)):Qi P K (f::fs) (w::ws) o:=⟨hn,ho,he,hl⟩
theorem Mc{P:Program}{K:Nat}{xs:Array Value}{hp:Hp}{F:ah}{β:Type}{Q:β→ah→Prop}(em:Bool)(d:Nat){g:PUnit→Sem β}:∀(fs:List Field) (ws:List Nat) (o:Nat) (us:List Int),Qi P K fs ws o→us.length=ws.sum→Part xs o (us.map nI)→
  tr P hp ((
       forIn fs PUnit.unit fun f __s=>
     if f.name≠ "_" then
      (
       part f.type xs f.offset).bind fun __do_lift=>
       (Instr.checkKey em (d+K) f.type __do_lift).bind fun r=>Sem.pure (ForInStep.yield PUnit.unit)
     else Sem.pure (ForInStep.yield PUnit.unit)).bind g) F Q=tr P hp (g PUnit.unit) F Q
 | [],[],o,us,_,h1,h3=>by
  simp only[List.forIn_nil,au,bind_pure]
 | f::fs,w::ws,o,us,hl,h1,h3=>by
  obtain⟨hn,ho,he,hl⟩:=hl
  simp only[List.sum_cons]at h1
  obtain⟨p1,p2⟩:=h3.two (w:=w) (by omega)
  have e1:(us.take w).length=w:=by simp;omega
  subst ho
  simp only[List.forIn_cons,bind_eq,if_pos hn,bind_assoc]
  rw[he em d e1 p1]
  simp only[bind_pure]
  exact Mc em d fs ws _ (us.drop w) hl (by simp;omega) p2
 | [],_::_,_,_,hl,_,_=>hl.elim
 | _::_,[],_,_,hl,_,_=>hl.elim
theorem CkV.struct{P:Program}{t:TypeId}{fs:Array Field}{ws:List Nat}{K:Nat}[TD P t (.struct fs)](hl:Qi P K fs.toList ws 0):CkV P t ws.sum (K+1):=by
 intro hp F β f Q em d us h1
 show tr P hp ((Instr.checkKey em (d+K+1) t _).bind f) F Q=_
 simp only[Instr.checkKey,bind_eq,au,bind_assoc,bind_pure,aC]
 rw[←Array.forIn_toList]
 exact Mc em d fs.toList ws 0 us hl h1 (Part.all _)
theorem Qj{P:Program}{E w K:Nat}{s:Nat}{z:Value}{zc:Array Value}[TI P E w s z zc]{xs:Array Value}{hp:Hp}{F:ah}{β:Type}{Q:β→ah→Prop}(he:Sr P E w K)(em:Bool)(d:Nat){g:PUnit→Sem β}:∀(n i:Nat) (us:List Int),us.length=n*w→Part xs (i*w) (us.map nI)→
  tr P hp ((
       forIn (List.range' i n) PUnit.unit fun i __s=>
     (
      sizeOf E).bind fun __do_lift=>
      (
       part E xs (i*__do_lift)).bind fun __do_lift=>
       (Instr.checkKey em (d+K) E __do_lift).bind fun r=>Sem.pure (ForInStep.yield PUnit.unit)).bind g) F Q=tr P hp (g PUnit.unit) F Q
 | 0,i,us,h1,h3=>by
  simp only[List.range'_zero,List.forIn_nil,au,bind_pure]
 | n+1,i,us,h1,h3=>by
  rw[Nat.succ_mul]at h1
  obtain⟨p1,p2⟩:=h3.two (w:=w) (by omega)
  have e1:(us.take w).length=w:=by simp;omega
  have e3:i*w+w=(i+1)*w:=by rw[Nat.succ_mul]
  rw[e3]at p2
  simp only[List.range'_succ,List.forIn_cons,bind_eq,bind_assoc,dH]
  rw[he em d e1 p1]
  simp only[bind_pure]
  exact Qj he em d n (i+1) (us.drop w) (by simp;omega) p2
theorem CkV.array{P:Program}{t n E w K:Nat}{s:Nat}{z:Value}{zc:Array Value}[TD P t (.array n E)][TI P E w s z zc](he:Sr P E w K):CkV P t (n*w) (K+1):=by
 intro hp F β f Q em d us h1
 show tr P hp ((Instr.checkKey em (d+K+1) t _).bind f) F Q=_
 simp only[Instr.checkKey,bind_eq,au,bind_assoc,bind_pure,aC]
 rw[Std.Legacy.Range.forIn_eq_forIn_range']
 have e:(Std.Legacy.Range.size [:n])=n:=by simp[Std.Legacy.Range.size]
 rw[e]
 exact Qj he em d n 0 us h1 (by rw[Nat.zero_mul];exact Part.all _)

class KV(P:Program)(t:TypeId)(w:outParam Nat):Prop where
 eq:EV P t w
 ck:CkV P t w 9
 ag:∃d,P.underlying t=some d∧((∃fs,d= .struct fs)∨∃n e,d= .array n e)

section
variable{P:Program}{h:Hp}{F:ah}{β:Type}{Q:β→ah→Prop}{t w:Nat}
theorem aAc[k:KV P t w]{f:Unit→Sem β}{em:Bool}{us:List Int}(h1:us.length=w):tr P h ((Instr.checkKey em 10000 t (.agg (us.map nI).toArray)).bind f) F Q=tr P h (f ()) F Q:=by
 have e:(10000:Nat)=9991+9:=rfl
 rw[e]
 exact k.ck em 9991 h1

end
section rules
variable{x:Cx}{ρ:Env}{F:ah}{S:ah→Prop}{o:Oper}{R:Value→ah→Prop}
theorem Md{t:Nat}(ho:o.op= .makeMap t none)(H:∀β,x.h β=none→(∀o,(β,o)∉F)→R (.map (some β)) ((β,.map #[] 0)::F)):Ef x ρ o F R:=
 Ef.xW fun e he h' hE=>by
  simp only[execOp,ho,Instr.makeMap,Option.map_none,bind_eq,au,bind_assoc,bind_pure]
  exact⟨(fun h=>by cases h),fun r h5 h6=>⟨_,.inl rfl,H r (hE.none h5) h6⟩⟩
end rules
end Go.aS

/- Queues: slices of one's own that begin somewhere in their block; maps whose keys are ints. Conditions: none; over any program. -/
namespace Go.aS
section
variable{α:Type}{row:α→List Value}{w:Nat}[rw':Rw row w]
def Oq(E:TypeId)(row:α→List Value)[Rw row w](v:Value)(l:List α)(A:ah):Prop:=
 (l=[]∧v= .slice none 0 0∧Shut A)∨∃β c o cap J,v= .slice (some ⟨β,o,none⟩) l.length cap∧A=(β,.cells c E (0,0))::J∧o+cap*w≤c.size∧l.length≤cap∧Part c o (flat row l)∧Shut J
theorem Oq.shut{E:TypeId}{v:Value}{l:List α}{A:ah}(H:Oq E row v l A):Shut A:=by
 rcases H with⟨_,_,h⟩ | ⟨β,c,o,cap,J,_,rfl,_,_,_,h⟩
 ·exact h
 ·exact .cons rfl h
end
section rules
variable{x:Cx}{ρ:Env}{F:ah}{S:ah→Prop}{o:Oper}{R:Value→ah→Prop}
section
variable{α:Type}{row:α→List Value}{w:Nat}[rw':Rw row w]
end
end rules
end Go.aS

/- Maps whose keys are ints. Conditions: none; over any program. -/
namespace Go.aS
def ER(es:Array MapEntry)(f:Int→Option Value):Prop:=∃m:List (Int×Value),es.toList.map (fun e=>(e.key,e.val))=m.map (fun p=>(nI p.1,p.2))∧(m.map (·.1)).Nodup∧∀x,m.lookup x=f x
theorem ER.nil:ER #[] fun _=>none:=⟨[],rfl,List.nodup_nil,fun _=>rfl⟩

section
variable{P:Program}{h:Hp}{F:ah}{β:Type}{Q:β→ah→Prop}{t:Nat}
end
section rules
variable{x:Cx}{ρ:Env}{F:ah}{S:ah→Prop}{o:Oper}{R:Value→ah→Prop}
end rules
end Go.aS

/- Iterators whose elements lie in blocks of their own: what is handed out is read while it is lent, and may be kept where the iterator ends. Conditions: none; over any program. -/
namespace Go.aS
def Vw(P:Program)(main:Side)(yv:Value)(h:Hp){X:Type}(Val:X→Value→ah→Prop)(xs:List X)(J:Nat→ah→Prop)(K:Nat→Value→ah→Prop):Prop:=
 ∀h',Ext h h'→∀k x v S A,xs[k]? =some x→Val x v S→fF S h'→J k A→gZ P main yv [v] h' A fun r A'=>(r= .bool true∧∃B,J (k+1) B∧Sb B A')∨(r= .bool false∧∃B,K k v B∧Sb B A')
def adE{X:Type}(Val:X→Value→ah→Prop)(xs:List X)(J:Nat→ah→Prop)(K:Nat→Value→ah→Prop)(A':ah):Prop:=
 (∃B,J xs.length B∧Sb B A')∨∃k x v S B,xs[k]? =some x∧Val x v S∧K k v B∧Sb (B++S) A'
def Me(P:Program)(main:Side)(fv:Value){X:Type}(Val:X→Value→ah→Prop)(xs:List X)(h:Hp):Prop:=
 ∀h',Ext h h'→∀(yv:Value),one yv=true→∀(J:Nat→ah→Prop) (K:Nat→Value→ah→Prop),Vw P main yv h' Val xs J K→∀A,J 0 A→gZ P main fv [yv] h' A fun _ A'=>adE Val xs J K A'
theorem Vw.ext{P:Program}{main:Side}{yv:Value}{h h':Hp}{X:Type}{Val:X→Value→ah→Prop}{xs:List X}{J:Nat→ah→Prop}{K:Nat→Value→ah→Prop}(H:Vw P main yv h Val xs J K)(e:Ext h h'):Vw P main yv h' Val xs J K:=
 fun h'' e'=>H h'' (e.trans e')
theorem Me.ext{P:Program}{main:Side}{fv:Value}{X:Type}{Val:X→Value→ah→Prop}{xs:List X}{h h':Hp}(H:Me P main fv Val xs h)(e:Ext h h'):Me P main fv Val xs h':=
 fun h'' e'=>H h'' (e.trans e')

theorem W.abV{x:Cx}{Q:Post}{ρ:Env}{ds:List Deferred}{F:ah}{f:Operand}{t:Tmp}{us bd:Code}{fv:Value}{X:Type}{Val:X→Value→ah→Prop}{xs:List X}(hf:ev ρ f=some fv)(hro:x.ro=none)(ht:Nat.blt t x.n=true)
  (D:Nat→ah→Prop) (DX:Nat→Value→Exit→ah→Prop) {A₀:ah} {g_:ah→ah} (hs:Seg A₀ F g_) (h0:D 0 A₀)
  (hi:∀h',Ext x.h h'→fF (g_ []) h'→Me x.P x.main fv Val xs h')
  (
   body:∀k p v S A,xs[k]? =some p→Val p v S→D k A→∀l h',Ext x.h h'→fF (g_ []) h'→fF S h'→W {x with ro:=some l,h:=h'} us (fun e xP xQ qp=>e= .normal∧xQ=[]∧∀h',Ext x.h h'→fF (g_ []) h'→fF S h'→
   W {x with ro:=some l,h:=h'} bd (fun e _ ds₂ kP=>ds₂=[]∧((e= .normal∧∃B,D (k+1) B∧Sb B kP)∨((tK e).isSome=true∧∃B,DX k v e B∧Sb B kP))) xP [] qp) ((t,v)::ρ) [] A)
  (after:∀A,D xs.length A→∀d,Q .normal ρ (mark d::ds) ((d,.deferred (some []))::g_ A))
  (afterX:∀k p v S e B,xs[k]? =some p→Val p v S→DX k v e B→∀d,Q e ρ (mark d::ds) ((d,.deferred (some []))::g_ (B++S))):W x (.rangeFunc f #[t] us bd) Q ρ ds F:=by
 refine W.rangeFunc hf hro fun tmps hρ hsz l d=>?_
 let L (s:LoopState) (pd:Option Code):Obj:=.loop {state:=s,pending:=pd,fn:=x.fn,tmps,params:= #[t],assign:=us,body:=bd,defers:=d}
 let J:Nat→ah→Prop:=fun k A=>∃B,D k B∧A=B++[(l,L .ready none)]
 let K:Nat→Value→ah→Prop:=fun k v A=>∃B e c,DX k v e B∧tK e=some c∧A=B++[(l,L .done (some c))]
 refine⟨A₀++[(l,L .ready none)],(d,.deferred (some []))::g_ [],fun _ A'=>adE Val xs J K A',?_,?_,?_⟩
 ·refine(List.perm_append_comm.append_right _).trans ?_
  refine List.Perm.cons _ ?_
  exact List.perm_middle.trans (hs.perm.1.cons _)
 ·intro h' e1 e2
  have e3:fF (g_ []) h':=fun b o hb=>e2 b o (List.mem_cons_of_mem _ hb)
  refine hi h' e1 e3 h' ⟨fun _ _ z=>z,fun _ z=>z⟩ _ rfl J K ?_ _ ⟨A₀,h0,rfl⟩
  rintro h'' e4 k p v S A hp hV hS ⟨B,hB,rfl⟩
  have hE:Ext x.h h'':=e1.trans e4
  have hL:fF (g_ []) h'':=fun b o hb=>e4.1 _ _ (e3 b o hb)
  refine⟨_,_,_,rfl,?_⟩
  simp only[invoke,Instr.yield,Instr.getLoop,bind_eq,au,bind_assoc]
  refine⟨L .ready none,.inr (List.mem_append_right _ (List.mem_cons_self ..)),(fun _ _ _=>by simp[L]),rfl,?_⟩
  have ez:Array.foldl (fun(tmps:Array Value) (x:Tmp×Value)=>tmps.setIfInBounds x.1 x.2) tmps (#[t].zip #[v])=tmps.setIfInBounds t v:=by simp
  show ni x.P x.main h'' _ (.round l x.fn (Array.foldl (fun(tmps:Array Value) (x:Tmp×Value)=>tmps.setIfInBounds x.1 x.2) tmps (#[t].zip #[v])) us bd) _
  rw[ez]
  have hlt:t<tmps.size:=by rw[hsz];exact Nat.le_of_ble_eq_true ht
  have WG:dQ ((t,v)::ρ) (tmps.setIfInBounds t v):=hρ.put hlt _
  have hsz':(tmps.setIfInBounds t v).size=x.n:=by simpa using hsz
  show Rnd x.P x.main l x.fn (tmps.setIfInBounds t v) us bd h'' _ _
  refine Rnd.aG _ WG ?_
  rw[hsz']
  refine(W.frame (x:={x with ro:=some l,h:=h''}) fun h₃ e5 _=>body k p v S B hp hV hB l h₃ (hE.trans e5) (fun b o hb=>e5.1 _ _ (hL b o hb)) (fun b o hb=>e5.1 _ _ (hS b o hb))).mono ?_
  rintro e xP xQ qp ⟨A',⟨rfl,rfl,hbd⟩,rfl⟩
  refine⟨rfl,rfl,?_⟩
  simp only[Instr.beginRound,Instr.getLoop,bind_eq,au,bind_assoc]
  refine⟨L .ready none,.inr (List.mem_append_right _ (List.mem_cons_self ..)),(fun _ _ _=>by simp[L]),rfl,?_⟩
  refine⟨L .ready none,A',[],rfl,(fun _ _ _=>by simp[L]),rfl,?_⟩
  show W _ _ _ _ _ (A'++[(l,L .busy none)])
  refine(W.frame (x:={x with ro:=some l,h:=h''}) fun h₃ e5 _=>hbd h₃ (hE.trans e5) (fun b o hb=>e5.1 _ _ (hL b o hb)) (fun b o hb=>e5.1 _ _ (hS b o hb))).mono ?_
  rintro e tC ds₂ kP ⟨A₂,⟨rfl,hcase⟩,rfl⟩
  rcases hcase with⟨rfl,Bg,BO,hsb⟩ | ⟨hj,Bg,BO,hsb⟩
  ·refine⟨rfl,none,rfl,?_⟩
   simp only[Instr.endRound,Instr.getLoop,bind_eq,au,bind_assoc]
   refine⟨L .busy none,.inr (List.mem_append_right _ (List.mem_cons_self ..)),(fun _ _ _=>by simp[L]),rfl,?_⟩
   refine⟨L .busy none,A₂,[],rfl,(fun _ _ _=>by simp[L]),rfl,?_⟩
   exact .inl ⟨rfl,Bg++[(l,L .ready none)],⟨Bg,BO,rfl⟩,hsb.app .refl⟩
  ·obtain⟨c,hc⟩:=Option.isSome_iff_exists.1 hj
   refine⟨rfl,some c,?_,?_⟩
   ·have:=uy (e:=some e) (fun x hx=>by cases hx;exact hj)
    rw[←hc];exact this
   simp only[Instr.endRound,Instr.getLoop,bind_eq,au,bind_assoc]
   refine⟨L .busy none,.inr (List.mem_append_right _ (List.mem_cons_self ..)),(fun _ _ _=>by simp[L]),rfl,?_⟩
   refine⟨L .busy none,A₂,[],rfl,(fun _ _ _=>by simp[L]),rfl,?_⟩
   exact .inr ⟨rfl,Bg++[(l,L .done (some c))],⟨Bg,e,c,BO,hc,rfl⟩,hsb.app .refl⟩
 ·rintro _ A' (⟨B,⟨A,hA,rfl⟩,hsub⟩ | ⟨k,p,v,S,B,hp,hV,⟨A,e,c,hA,hc,rfl⟩,hsub⟩)
  ·refine⟨A++[(l,L .ready none)],hsub,?_⟩
   simp only[Instr.endLoop,Instr.getLoop,bind_eq,au,bind_assoc]
   refine⟨L .ready none,.inr (List.mem_append_left _ (List.mem_append_right _ (List.mem_cons_self ..))),(fun _ _ _=>by simp[L]),rfl,?_⟩
   refine⟨L .ready none,A,(d,.deferred (some []))::g_ [],by simp,(fun _ _ _=>by simp[L]),rfl,?_⟩
   refine⟨(d,.deferred (some []))::g_ A,?_,after A hA d⟩
   refine Sb.trans (Sb.dF ((hs.perm.2 A).cons _)) ?_
   refine(Sb.dF List.perm_middle.symm).trans (Sb.app .refl (Sb.skip rfl .refl))
  ·refine⟨A++[(l,L .done (some c))]++S,hsub,?_⟩
   simp only[Instr.endLoop,Instr.getLoop,bind_eq,au,bind_assoc]
   refine⟨L .done (some c),.inr (by simp),(fun _ _ _=>by simp[L]),rfl,?_⟩
   refine⟨L .done (some c),A,S++(d,.deferred (some []))::g_ [],by simp,(fun _ _ _=>by simp[L]),rfl,?_⟩
   show W x c Q ρ (mark d::ds) _
   refine W.sb (F':=(d,.deferred (some []))::g_ (A++S)) ?_ ?_
   ·refine Sb.trans (Sb.dF ((hs.perm.2 (A++S)).cons _)) ?_
    refine(Sb.dF (List.Perm.symm (List.perm_middle (l₁:=A++S)))).trans ?_
    rw[List.append_assoc]
    exact Sb.app .refl (Sb.skip rfl .refl)
   ·have q:=afterX k p v S e A hp hV hA d
    cases e <;>simp only[tK,Option.some.injEq]at hc <;>first | (cases hc;done) | subst hc
    ·exact W.exit q
    ·exact W.goto q
    ·exact W.ret q
end Go.aS
namespace Go.aS
theorem W.abW{x:Cx}{Q:Post}{ρ:Env}{ds:List Deferred}{F:ah}{f:Operand}{t:Tmp}{us bd:Code}{fv:Value}{X:Type}{Val:X→Value→ah→Prop}{xs:List X}(hf:ev ρ f=some fv)(hro:x.ro=none)(ht:Nat.blt t x.n=true)
  (D:Nat→ah→Prop) (DX:Nat→Value→Exit→ah→Prop) {A₀:ah} {g_:ah→ah} (hs:Seg A₀ F g_) (h0:D 0 A₀)
  (hi:∀h',Ext x.h h'→fF (g_ []) h'→Me x.P x.main fv Val xs h')
  (
   body:∀k p v S A,xs[k]? =some p→Val p v S→D k A→∀l h',Ext x.h h'→fF (g_ []) h'→fF S h'→W {x with ro:=some l,h:=h'} us (fun e xP xQ qp=>e= .normal∧xQ=[]∧∀h',Ext x.h h'→fF (g_ []) h'→fF S h'→
   W {x with ro:=some l,h:=h'} bd (fun e _ ds₂ kP=>ds₂=[]∧((e= .normal∧∃B,D (k+1) B∧Sb B kP)∨((tK e).isSome=true∧∃B,DX k v e B∧Sb B kP))) xP [] qp) ((t,v)::ρ) [] A)
  (after:∀e A,((e= .normal∧D xs.length A)∨∃k p v S B,xs[k]? =some p∧Val p v S∧DX k v e B∧A=B++S)→∀d,Q e ρ (mark d::ds) ((d,.deferred (some []))::g_ A)):W x (.rangeFunc f #[t] us bd) Q ρ ds F:=
 W.abV hf hro ht D DX hs h0 hi body (fun A hA d=>after _ A (.inl ⟨rfl,hA⟩) d) (fun k p v S e B h1 h2 h3 d=>after e _ (.inr ⟨k,p,v,S,B,h1,h2,h3,rfl⟩) d)
end Go.aS

/- Iterators that look at what the loop's body turns: of it something is known all along. Conditions: none; over any program. -/
namespace Go.aS
def aGK(P:Program)(main:Side)(fv:Value){X:Type}(Val:X→Value→ah→Prop)(xs:List X)(Φ:ah→Prop)(h:Hp):Prop:=
 ∀h',Ext h h'→∀(yv:Value),one yv=true→∀(J:Nat→ah→Prop) (K:Nat→Value→ah→Prop),(∀k A,J k A→Φ A)→Vw P main yv h' Val xs J K→∀A,J 0 A→gZ P main fv [yv] h' A fun _ A'=>adE Val xs J K A'
theorem aGK.ext{P:Program}{main:Side}{fv:Value}{X:Type}{Val:X→Value→ah→Prop}{xs:List X}{Φ:ah→Prop}{h h':Hp}(H:aGK P main fv Val xs Φ h)(e:Ext h h'):aGK P main fv Val xs Φ h':=
 fun h'' e'=>H h'' (e.trans e')

theorem W.aJN{x:Cx}{Q:Post}{ρ:Env}{ds:List Deferred}{F:ah}{f:Operand}{t:Tmp}{us bd:Code}{fv:Value}{X:Type}{Val:X→Value→ah→Prop}{xs:List X}(hf:ev ρ f=some fv)(hro:x.ro=none)(ht:Nat.blt t x.n=true)
  (D:Nat→ah→Prop) (DX:Nat→Value→Exit→ah→Prop) {A₀:ah} {g_:ah→ah} (hs:Seg A₀ F g_) (h0:D 0 A₀)
  (Φ:ah→Prop) (hΦ:∀k B y,D k B→Φ (B++[y]))
  (hi:∀h',Ext x.h h'→fF (g_ []) h'→aGK x.P x.main fv Val xs Φ h')
  (
   body:∀k p v S A,xs[k]? =some p→Val p v S→D k A→∀l h',Ext x.h h'→fF (g_ []) h'→fF S h'→W {x with ro:=some l,h:=h'} us (fun e xP xQ qp=>e= .normal∧xQ=[]∧∀h',Ext x.h h'→fF (g_ []) h'→fF S h'→
   W {x with ro:=some l,h:=h'} bd (fun e _ ds₂ kP=>ds₂=[]∧((e= .normal∧∃B,D (k+1) B∧Sb B kP)∨((tK e).isSome=true∧∃B,DX k v e B∧Sb B kP))) xP [] qp) ((t,v)::ρ) [] A)
  (after:∀A,D xs.length A→∀d,Q .normal ρ (mark d::ds) ((d,.deferred (some []))::g_ A))
  (afterX:∀k p v S e B,xs[k]? =some p→Val p v S→DX k v e B→∀d,Q e ρ (mark d::ds) ((d,.deferred (some []))::g_ (B++S))):W x (.rangeFunc f #[t] us bd) Q ρ ds F:=by
 refine W.rangeFunc hf hro fun tmps hρ hsz l d=>?_
 let L (s:LoopState) (pd:Option Code):Obj:=.loop {state:=s,pending:=pd,fn:=x.fn,tmps,params:= #[t],assign:=us,body:=bd,defers:=d}
 let J:Nat→ah→Prop:=fun k A=>∃B,D k B∧A=B++[(l,L .ready none)]
 let K:Nat→Value→ah→Prop:=fun k v A=>∃B e c,DX k v e B∧tK e=some c∧A=B++[(l,L .done (some c))]
 refine⟨A₀++[(l,L .ready none)],(d,.deferred (some []))::g_ [],fun _ A'=>adE Val xs J K A',?_,?_,?_⟩
 ·refine(List.perm_append_comm.append_right _).trans ?_
  refine List.Perm.cons _ ?_
  exact List.perm_middle.trans (hs.perm.1.cons _)
 ·intro h' e1 e2
  have e3:fF (g_ []) h':=fun b o hb=>e2 b o (List.mem_cons_of_mem _ hb)
  refine hi h' e1 e3 h' ⟨fun _ _ z=>z,fun _ z=>z⟩ _ rfl J K (fun k A hA=>by obtain⟨B,hB,rfl⟩:=hA;exact hΦ k B _ hB) ?_ _ ⟨A₀,h0,rfl⟩
  rintro h'' e4 k p v S A hp hV hS ⟨B,hB,rfl⟩
  have hE:Ext x.h h'':=e1.trans e4
  have hL:fF (g_ []) h'':=fun b o hb=>e4.1 _ _ (e3 b o hb)
  refine⟨_,_,_,rfl,?_⟩
  simp only[invoke,Instr.yield,Instr.getLoop,bind_eq,au,bind_assoc]
  refine⟨L .ready none,.inr (List.mem_append_right _ (List.mem_cons_self ..)),(fun _ _ _=>by simp[L]),rfl,?_⟩
  have ez:Array.foldl (fun(tmps:Array Value) (x:Tmp×Value)=>tmps.setIfInBounds x.1 x.2) tmps (#[t].zip #[v])=tmps.setIfInBounds t v:=by simp
  show ni x.P x.main h'' _ (.round l x.fn (Array.foldl (fun(tmps:Array Value) (x:Tmp×Value)=>tmps.setIfInBounds x.1 x.2) tmps (#[t].zip #[v])) us bd) _
  rw[ez]
  have hlt:t<tmps.size:=by rw[hsz];exact Nat.le_of_ble_eq_true ht
  have WG:dQ ((t,v)::ρ) (tmps.setIfInBounds t v):=hρ.put hlt _
  have hsz':(tmps.setIfInBounds t v).size=x.n:=by simpa using hsz
  show Rnd x.P x.main l x.fn (tmps.setIfInBounds t v) us bd h'' _ _
  refine Rnd.aG _ WG ?_
  rw[hsz']
  refine(W.frame (x:={x with ro:=some l,h:=h''}) fun h₃ e5 _=>body k p v S B hp hV hB l h₃ (hE.trans e5) (fun b o hb=>e5.1 _ _ (hL b o hb)) (fun b o hb=>e5.1 _ _ (hS b o hb))).mono ?_
  rintro e xP xQ qp ⟨A',⟨rfl,rfl,hbd⟩,rfl⟩
  refine⟨rfl,rfl,?_⟩
  simp only[Instr.beginRound,Instr.getLoop,bind_eq,au,bind_assoc]
  refine⟨L .ready none,.inr (List.mem_append_right _ (List.mem_cons_self ..)),(fun _ _ _=>by simp[L]),rfl,?_⟩
  refine⟨L .ready none,A',[],rfl,(fun _ _ _=>by simp[L]),rfl,?_⟩
  show W _ _ _ _ _ (A'++[(l,L .busy none)])
  refine(W.frame (x:={x with ro:=some l,h:=h''}) fun h₃ e5 _=>hbd h₃ (hE.trans e5) (fun b o hb=>e5.1 _ _ (hL b o hb)) (fun b o hb=>e5.1 _ _ (hS b o hb))).mono ?_
  rintro e tC ds₂ kP ⟨A₂,⟨rfl,hcase⟩,rfl⟩
  rcases hcase with⟨rfl,Bg,BO,hsb⟩ | ⟨hj,Bg,BO,hsb⟩
  ·refine⟨rfl,none,rfl,?_⟩
   simp only[Instr.endRound,Instr.getLoop,bind_eq,au,bind_assoc]
   refine⟨L .busy none,.inr (List.mem_append_right _ (List.mem_cons_self ..)),(fun _ _ _=>by simp[L]),rfl,?_⟩
   refine⟨L .busy none,A₂,[],rfl,(fun _ _ _=>by simp[L]),rfl,?_⟩
   exact .inl ⟨rfl,Bg++[(l,L .ready none)],⟨Bg,BO,rfl⟩,hsb.app .refl⟩
  ·obtain⟨c,hc⟩:=Option.isSome_iff_exists.1 hj
   refine⟨rfl,some c,?_,?_⟩
   ·have:=uy (e:=some e) (fun x hx=>by cases hx;exact hj)
    rw[←hc];exact this
   simp only[Instr.endRound,Instr.getLoop,bind_eq,au,bind_assoc]
   refine⟨L .busy none,.inr (List.mem_append_right _ (List.mem_cons_self ..)),(fun _ _ _=>by simp[L]),rfl,?_⟩
   refine⟨L .busy none,A₂,[],rfl,(fun _ _ _=>by simp[L]),rfl,?_⟩
   exact .inr ⟨rfl,Bg++[(l,L .done (some c))],⟨Bg,e,c,BO,hc,rfl⟩,hsb.app .refl⟩
 ·rintro _ A' (⟨B,⟨A,hA,rfl⟩,hsub⟩ | ⟨k,p,v,S,B,hp,hV,⟨A,e,c,hA,hc,rfl⟩,hsub⟩)
  ·refine⟨A++[(l,L .ready none)],hsub,?_⟩
   simp only[Instr.endLoop,Instr.getLoop,bind_eq,au,bind_assoc]
   refine⟨L .ready none,.inr (List.mem_append_left _ (List.mem_append_right _ (List.mem_cons_self ..))),(fun _ _ _=>by simp[L]),rfl,?_⟩
   refine⟨L .ready none,A,(d,.deferred (some []))::g_ [],by simp,(fun _ _ _=>by simp[L]),rfl,?_⟩
   refine⟨(d,.deferred (some []))::g_ A,?_,after A hA d⟩
   refine Sb.trans (Sb.dF ((hs.perm.2 A).cons _)) ?_
   refine(Sb.dF List.perm_middle.symm).trans (Sb.app .refl (Sb.skip rfl .refl))
  ·refine⟨A++[(l,L .done (some c))]++S,hsub,?_⟩
   simp only[Instr.endLoop,Instr.getLoop,bind_eq,au,bind_assoc]
   refine⟨L .done (some c),.inr (by simp),(fun _ _ _=>by simp[L]),rfl,?_⟩
   refine⟨L .done (some c),A,S++(d,.deferred (some []))::g_ [],by simp,(fun _ _ _=>by simp[L]),rfl,?_⟩
   show W x c Q ρ (mark d::ds) _
   refine W.sb (F':=(d,.deferred (some []))::g_ (A++S)) ?_ ?_
   ·refine Sb.trans (Sb.dF ((hs.perm.2 (A++S)).cons _)) ?_
    refine(Sb.dF (List.Perm.symm (List.perm_middle (l₁:=A++S)))).trans ?_
    rw[List.append_assoc]
    exact Sb.app .refl (Sb.skip rfl .refl)
   ·have q:=afterX k p v S e A hp hV hA d
    cases e <;>simp only[tK,Option.some.injEq]at hc <;>first | (cases hc;done) | subst hc
    ·exact W.exit q
    ·exact W.goto q
    ·exact W.ret q
theorem W.aJh{x:Cx}{Q:Post}{ρ:Env}{ds:List Deferred}{F:ah}{f:Operand}{t:Tmp}{us bd:Code}{fv:Value}{X:Type}{Val:X→Value→ah→Prop}{xs:List X}(hf:ev ρ f=some fv)(hro:x.ro=none)(ht:Nat.blt t x.n=true)
  (D:Nat→ah→Prop) (DX:Nat→Value→Exit→ah→Prop) {A₀:ah} {g_:ah→ah} (hs:Seg A₀ F g_) (h0:D 0 A₀)
  (Φ:ah→Prop) (hΦ:∀k B y,D k B→Φ (B++[y]))
  (hi:∀h',Ext x.h h'→fF (g_ []) h'→aGK x.P x.main fv Val xs Φ h')
  (
   body:∀k p v S A,xs[k]? =some p→Val p v S→D k A→∀l h',Ext x.h h'→fF (g_ []) h'→fF S h'→W {x with ro:=some l,h:=h'} us (fun e xP xQ qp=>e= .normal∧xQ=[]∧∀h',Ext x.h h'→fF (g_ []) h'→fF S h'→
   W {x with ro:=some l,h:=h'} bd (fun e _ ds₂ kP=>ds₂=[]∧((e= .normal∧∃B,D (k+1) B∧Sb B kP)∨((tK e).isSome=true∧∃B,DX k v e B∧Sb B kP))) xP [] qp) ((t,v)::ρ) [] A)
  (after:∀e A,((e= .normal∧D xs.length A)∨∃k p v S B,xs[k]? =some p∧Val p v S∧DX k v e B∧A=B++S)→∀d,Q e ρ (mark d::ds) ((d,.deferred (some []))::g_ A)):W x (.rangeFunc f #[t] us bd) Q ρ ds F:=
 W.aJN hf hro ht D DX hs h0 Φ hΦ hi body (fun A hA d=>after _ A (.inl ⟨rfl,hA⟩) d) (fun k p v S e B h1 h2 h3 d=>after e _ (.inr ⟨k,p,v,S,B,h1,h2,h3,rfl⟩) d)
end Go.aS

/- The stands at which a cone is dry, handed out. Conditions: none; over the given program. -/
namespace Go.aS
set_option maxRecDepth 100000
set_option maxHeartbeats 4000000
def aGw.aKM:aGw→Int
 | .dry d=>d
 | _=>0
theorem aJP(f:aGw):J_ prog (Instr.typeAssert f.val aG3 aEi true)=some (.tuple #[.agg #[I f.aKM],.bool f.aJd.isSome]):=by
 cases f <;>kernel_rfl
def aKi(x:Sd)(v:Value)(S:ah):Prop:=v=x.val∧S=[]
def aKj(bs:Nat)(vs vc vh:Value)(n:Nat)(A:ah):Prop:=∃cs A',A.Perm ((bs,.cells cs U8 (0,0))::A')∧StF cs vs vc vh n
theorem adS{b:Bool}(h:(!b)=true):b=false:=by simpa using h
theorem adT{b:Bool}(h:(!b)=false):b=true:=by simpa using h
theorem aIP(main:Side)(h:Hp)(sh:List Shf)(cn:List Cne)(hs:List Int)(vs vc vh:Value)(bs b1 b2:Nat)(Eg E1 E2:TypeId)(zg z1 z2:Nat×Nat)(h1:Sl h Shf.row vs sh)(h2:Sl h Cne.row vc cn)(h3:Sl h fH vh hs)(hok:aCr sh cn hs)(hg:h 0=some (.cells #[Ur qM] Eg zg))
  (i:Nat) (c:Cne) (hc:cn[i]? =some c) (hb1:h b1=some (.cells #[bI bs] E1 z1)) (hb2:h b2=some (.cells #[I i] E2 z2)):aGK prog main (.func (.func aBT) #[] #[bI b1,bI b2]) aKi (aB8 sh c hs) (aKj bs vs vc vh hs.length) h:=by
 have hd4:=hok.d4
 have hs3:=hok.s3
 have hc3:=hok.c3
 intro h' hE0 yv hy1 J K hΦ hy A hJ
 have k1:=h1
 obtain⟨a1,cap1,rfl⟩:=h1.dA
 refine gZ.zh (f:=aBT) (fi:=[]) (args:=[_]) (ca:=[bI b1,bI b2]) ?_
 refine dV.aG aEg rfl (by show 3≤46;decide) [(0,yv),(1,bI b1),(2,bI b2)] ⟨rfl,rfl,rfl,trivial⟩ ?_
 have hb1':=hE0.1 _ _ hb1
 have hb2':=hE0.1 _ _ hb2
 obtain⟨cs,A',hp,hS⟩:=hΦ 0 A hJ
 have hc0:=hS.c0
 refine W.perm hp.symm ?_
 refine W.seq<|W.region rfl ?_
 refine agX rfl ?_
 refine ag4 rfl ?_
 refine agY rfl ?_
 refine agY rfl ?_
 refine agX rfl ?_
 refine agW (dM rfl rfl) rfl ?_
 refine qm rfl rfl rfl<|pq<|W.block ?_
 refine W.aa1 (fun(k:Nat) (A:ah)=>k≤sh.length∧J (aDZ sh c hs k 0) A) (fun k _=>[(15,I k),(14,I sh.length),(0,yv),(1,bI b1),(2,bI b2)]) (fun _ A=>A) (fun k _=>sh.length-k) 0 A ⟨Nat.zero_le _,by rw[aKh];exact hJ⟩ ⟨rfl,rfl,rfl,rfl,rfl,trivial⟩ (.dF hp) ?_
 clear hp hS hc0 hJ
 rintro k A ⟨hk,hJ⟩
 refine W.seq<|W.region rfl ?_
 refine agW (fO rfl rfl rfl) rfl ?_
 refine pq<|W.seq ?_
 refine W.bC rfl (fun c16=>?_) (fun c16=>?_)
 ·have hkl:k<sh.length:=by omega
  refine W.skip<|aA<|W.seq<|W.block<|W.seq<|W.region rfl<|qm rfl rfl rfl<|agb rfl rfl rfl<|pq ?_
  refine W.seq ?_
  obtain⟨cs,A',hp,hS⟩:=hΦ _ A hJ
  have hc2:=hS.c2
  refine W.perm hp.symm ?_
  refine W.region rfl ?_
  refine agX rfl ?_
  refine ag4 rfl ?_
  refine agY rfl ?_
  refine agY rfl ?_
  refine agX rfl ?_
  refine qm rfl rfl rfl<|pq<|W.block ?_
  refine W.aa1 (fun(d:Nat) (A:ah)=>d≤hs.length∧J (aDZ sh c hs k d) A) (fun d _=>[(23,I d),(22,I hs.length),(4,I k),(15,I k),(14,I sh.length),(0,yv),(1,bI b1),(2,bI b2)]) (fun _ A=>A) (fun d _=>hs.length-d) 0 A ⟨Nat.zero_le _,hJ⟩ ⟨rfl,rfl,rfl,rfl,rfl,rfl,rfl,rfl,trivial⟩ (.dF hp) ?_
  clear hp hS hc2 hJ
  rintro d A ⟨hd,hJ⟩
  refine W.seq<|W.region rfl ?_
  refine agW (fO rfl rfl rfl) rfl ?_
  refine pq<|W.seq ?_
  refine W.bC rfl (fun c24=>?_) (fun c24=>?_)
  ·have hdl:d<hs.length:=by omega
   obtain⟨cs,A',hp,hS⟩:=hΦ _ A hJ
   refine W.skip<|aA<|W.seq<|W.block<|W.seq<|W.region rfl<|qm rfl rfl rfl<|agb rfl rfl rfl<|pq ?_
   refine W.seq<|W.region rfl<|qm rfl rfl rfl<|qm rfl rfl rfl ?_
   refine agW (eH rfl rfl rfl) rfl ?_
   refine Ops.new (fun yC=>?_)
   first | refine Ops.jP ?_ | refine Ops.nY ?_
   refine pq<|W.seq<|W.region rfl ?_
   refine agX rfl ?_
   refine agX rfl ?_
   first | refine ag2 rfl ?_ | refine agW (ady rfl rfl) rfl ?_
   refine cp (fun h'' hE hL=>aHU _ h'' sh cn hs _ _ _ bs cs _ _ _ _ hS (hL bs _ (.tail _ (hp.symm.subset (.head _)))) (k1.ext (hE0.trans hE)) (h2.ext (hE0.trans hE)) (h3.ext (hE0.trans hE)) hok ((hE0.trans hE).1 _ _ hg) i k d c hc hkl hdl) ?_
   refine agW (yta (aJP _) rfl rfl) rfl ?_
   refine qm rfl rfl rfl<|oq (bD rfl rfl rfl) rfl wn rfl rfl<|oq (bD rfl rfl rfl) rfl wn rfl rfl ?_
   refine Ops.new (fun Vo=>?_)
   first | refine Ops.jP ?_ | refine Ops.nY ?_
   refine agb rfl rfl rfl<|pq<|W.seq<|W.region rfl<|qm rfl rfl rfl<|qm rfl rfl rfl ?_
   refine Ops.RV (fun aHE=>?_) (fun aHE=>?_)
   ·refine oq (aN rfl rfl) rfl (ak rfl rfl rfl) rfl rfl ?_
    first | refine oq (Bf rfl rfl) rfl (ak rfl rfl rfl) rfl rfl ?_ | refine oq (zi rfl rfl) rfl (ak rfl rfl rfl) rfl rfl ?_ | refine oq (ady rfl rfl) rfl (ak rfl rfl rfl) rfl rfl ?_
    have hx:=pos_at hkl hdl aHE
    refine cgv (.tail (.tail .all)) (fun h'' hE hL=>hy h'' hE _ ⟨k,d⟩ _ [] A hx ⟨rfl,rfl⟩ (fun b o h=>by cases h) hJ) (fun r B1 hr=>?_)
    obtain⟨r,rfl,hr⟩:∃b:Bool,r= .bool b∧((b=true∧∃B,J (aDZ sh c hs k (d+1)) B∧Sb B B1)∨(b=false∧∃B,K (aDZ sh c hs k d) (Sd.val ⟨k,d⟩) B∧Sb B B1)):=by
     rw[aG1 aHE]
     rcases hr with⟨rfl,h⟩ | ⟨rfl,h⟩
     ·exact⟨true,rfl,.inl ⟨rfl,h⟩⟩
     ·exact⟨false,rfl,.inr ⟨rfl,h⟩⟩
    refine oq (xU rfl rfl) rfl (ak rfl rfl rfl) rfl rfl ?_
    refine agW (dG rfl rfl rfl) rfl ?_
    refine pq ?_
    refine W.cond rfl (fun c43=>?_) (fun c43=>?_)
    ·refine W.ret<|cZ<|aY<|aY<|cZ<|cZ<|aY<|aY<|cZ ?_
     obtain rfl:=adS c43
     refine mg (vs:=[]) ?_
     rcases hr with⟨h,_⟩ | ⟨_,B,hB,hsb⟩
     ·cases h
     ·exact .inr ⟨_,_,_,[],B,hx,⟨rfl,rfl⟩,hB,by rw[List.append_nil];exact .skip rfl (.skip rfl hsb)⟩
    ·refine W.skip<|dI<|aA<|W.region rfl ?_
     refine ag1 rfl ?_
     refine qm rfl rfl rfl<|pq ?_
     first
      | exact⟨rfl,d+1,A,⟨by omega,by rw[aIO (by simpa[aFj]using aHE)];exact hJ⟩,by omega,⟨rfl,rfl,rfl,rfl,rfl,rfl,rfl,rfl,trivial⟩,.skip rfl (.skip rfl .refl)⟩
      | (
        obtain rfl:=adT c43
        rcases hr with⟨_,B,hB,hsb⟩ | ⟨h,_⟩
        ·exact⟨rfl,d+1,B,⟨by omega,by first | exact hB | (rw[aG1 aHE];exact hB)⟩,by omega,⟨rfl,rfl,rfl,rfl,rfl,rfl,rfl,rfl,trivial⟩,.skip rfl (.skip rfl hsb)⟩
        ·cases h)
   ·refine Ops.no ?_
    refine Ops.no ?_
    refine Ops.no ?_
    refine Ops.no ?_
    refine agW (iH rfl rfl rfl) rfl ?_
    refine pq ?_
    refine W.bZ ?_
    refine W.skip<|dI<|aA<|W.region rfl ?_
    refine ag1 rfl ?_
    refine qm rfl rfl rfl<|pq ?_
    first
     | exact⟨rfl,d+1,A,⟨by omega,by rw[aIO (by simpa[aFj]using aHE)];exact hJ⟩,by omega,⟨rfl,rfl,rfl,rfl,rfl,rfl,rfl,rfl,trivial⟩,.skip rfl (.skip rfl .refl)⟩
     | (
       obtain rfl:=adT c43
       rcases hr with⟨_,B,hB,hsb⟩ | ⟨h,_⟩
       ·exact⟨rfl,d+1,B,⟨by omega,by first | exact hB | (rw[aG1 aHE];exact hB)⟩,by omega,⟨rfl,rfl,rfl,rfl,rfl,rfl,rfl,rfl,trivial⟩,.skip rfl (.skip rfl hsb)⟩
       ·cases h)
  ·refine W.exit<|bP<|bP<|gG<|dI<|aA<|W.region rfl ?_
   refine ag1 rfl ?_
   refine qm rfl rfl rfl<|pq ?_
   obtain rfl:d=hs.length:=by omega
   rw[aJf]at hJ
   exact⟨rfl,k+1,A,⟨by omega,hJ⟩,by omega,⟨rfl,rfl,rfl,rfl,rfl,trivial⟩,.refl⟩
 ·refine W.exit<|bP<|bP<|gG ?_
  obtain rfl:k=sh.length:=by omega
  rw[aJg]at hJ
  exact mg (vs:=[]) (.inl ⟨A,hJ,.refl⟩)
end Go.aS

/- Maps from arrays of numbers to anything: keys that are new are put; a loop over all, in any order. Conditions: none; over any program. -/
namespace Go.aS
def aBt(k:List Int):Value:=.agg (k.map nI).toArray
def awQ(m:List (List Int×Value)):List MapEntry:=m.zipIdx.map fun p=>{key:=aBt p.1.1,val:=p.1.2,born:=p.2}
abbrev ax6(m:List (List Int×Value)):Obj:=.map (awQ m).toArray m.length
theorem aAF{m:List (List Int×Value)}{k:List Int}{v:Value}:awQ (m++[(k,v)])=awQ m++[{key:=aBt k,val:=v,born:=m.length}]:=by
 simp[awQ,List.zipIdx_append]
section
variable{P:Program}{h:Hp}{F:ah}{β:Type}{Q:β→ah→Prop}{t w:Nat}
theorem azn[k:KV P t w]{f:Option (Nat×Value)→Sem β}{a:List Int}(h1:a.length=w):∀{m:List (List Int×Value)} {l:List MapEntry} {i:Nat},(∀b∈m,b.1.length=w)→l.map (·.key)=m.map (fun p=>aBt p.1)→a∉m.map (·.1)→
  tr P h ((Instr.findAsking t (aBt a) l i).bind f) F Q=tr P h (f none) F Q
 | [],l,i,hw,hm,ha=>by
  have:l=[]:=by simpa using hm
  subst this
  simp only[Instr.findAsking,au,bind_pure]
 | b::m,[],i,hw,hm,ha=>by cases hm
 | b::m,e::l,i,hw,hm,ha=>by
  simp only[List.map_cons,List.cons.injEq]at hm
  obtain⟨hk,hm⟩:=hm
  have:=k.eq
  have hab:a≠b.1:=fun h=>ha (by rw[h];simp)
  have hk':e.key= .agg (b.1.map nI).toArray:=hk
  simp only[Instr.findAsking,bind_eq,au,bind_assoc,hk',aBt,X7 h1 (hw b (List.mem_cons_self ..)),hab,decide_false,Bool.false_eq_true,if_false]
  exact azn h1 (fun c hc=>hw c (List.mem_cons_of_mem _ hc)) hm fun h=>ha (by simp[h])
theorem aAe[k:KV P t w]{f:Option (Nat×Value)→Sem β}{a:List Int}(h1:a.length=w){m:List (List Int×Value)}{l:List MapEntry}(hw:∀b∈m,b.1.length=w)(hm:l.map (·.key)=m.map (fun p=>aBt p.1))(ha:a∉m.map (·.1)):
  tr P h ((Instr.findKey t (aBt a) l).bind f) F Q=tr P h (f none) F Q:=by
 obtain⟨d,hd,hda⟩:=k.ag
 have:TD P t d:=⟨hd⟩
 simp only[Instr.findKey,bind_eq,au,bind_assoc,aC]
 cases l with
 | nil=>simp only[Instr.findNow,bind_pure]
 | cons e l=>
  have hn:Instr.findNow d (aBt a) (e::l) 0=none:=by
   have:Instr.sameNow d (aBt a) e.key=none:=by
    rcases hda with⟨fs,rfl⟩ | ⟨n,el,rfl⟩ <;>rfl
   simp only[Instr.findNow,this]
  simp only[hn]
  exact azn h1 hw hm ha
end
section rules
variable{x:Cx}{ρ:Env}{F:ah}{S:ah→Prop}{o:Oper}{R:Value→ah→Prop}
theorem aAS{t kt vt w:Nat}{y k v:Operand}{β:Nat}{m:List (List Int×Value)}{a:List Int}{u:Value}{U:Obj→ah}(ho:o.op= .mapUpdate t y k v)[TD x.P t (.map kt vt)][KV x.P kt w](hy:ev ρ y=some (.map (some β)))(hk:ev ρ k=some (aBt a))(hv:ev ρ v=some u)(h1:a.length=w)(hw:∀b∈m,b.1.length=w)(ha:a∉m.map (·.1))(hl:At β (ax6 m) F U)
  (H:R undef (U (ax6 (m++[(a,u)])))):Ef x ρ o F R:=
 Ef.xW fun e he h' hE=>by
  obtain⟨F1,F2,e1,e2⟩:=hl.split
  have hm:(awQ m).map (·.key)=m.map (fun p=>aBt p.1):=by
   rw[awQ,List.map_map]
   have:∀(l:List (List Int×Value)) (n:Nat),(l.zipIdx n).map ((fun e:MapEntry=>e.key)∘fun p:(List Int×Value)×Nat=>{key:=aBt p.1.1,val:=p.1.2,born:=p.2:MapEntry})=l.map fun p=>aBt p.1:=fun l=>by
    induction l with
    | nil=>intro n;rfl
    | cons a l ih=>intro n;rw[List.zipIdx_cons,List.map_cons,ih];rfl
   exact this m 0
  simp only[execOp,ho,he y _ hy,he k _ hk,he v _ hv,Instr.mapUpdate,bind_eq,au,bind_assoc,bind_pure,aC]
  refine⟨ax6 m,.inr (by rw[e1];simp),(fun _ _ _=>by simp),rfl,?_⟩
  simp only[au,bind_pure,bind_assoc]
  have e0:aBt a= .agg (a.map nI).toArray:=rfl
  rw[e0,aAc h1,←e0,aAe h1 hw hm ha]
  refine⟨ax6 m,F1,F2,e1,(fun _ _ _=>by simp),rfl,?_⟩
  rw[e2]at H
  refine⟨_,.inr ⟨rfl,rfl⟩,?_⟩
  have e3:(awQ m).toArray.push {key:=aBt a,val:=u,born:=m.length}=(awQ (m++[(a,u)])).toArray:=by rw[aAF];simp
  rw[e3,show m.length+1=(m++[(a,u)]).length by simp]
  exact H
end rules
end Go.aS

/- Maps from arrays of numbers to anything: asked whether a key is there, and what it has. Conditions: none; over any program. -/
namespace Go.aS
def aCJ(k:List Int):List (List Int×Value)→Nat→Option (Nat×Value)
 | [],_=>none
 | a::ks,i=>if k=a.1 then some (i,a.2)else aCJ k ks (i+1)
theorem aFz{k:List Int}:∀{m:List (List Int×Value)} {i:Nat} {r:Nat×Value},aCJ k m i=some r→(k,r.2)∈m
 | [],_,_,h=>by cases h
 | a::m,i,r,h=>by
  simp only[aCJ]at h
  split at h
  ·rename_i e
   cases h
   subst e
   exact List.mem_cons_self ..
  ·exact List.mem_cons_of_mem _ (aFz h)
theorem aFA{k:List Int}:∀{m:List (List Int×Value)} {i:Nat},aCJ k m i=none→k∉m.map (·.1)
 | [],_,_=>by simp
 | a::m,i,h=>by
  simp only[aCJ]at h
  split at h
  ·cases h
  ·rename_i e
   have:=aFA h
   simp only[List.map_cons,List.mem_cons,not_or]
   exact⟨e,this⟩
section
variable{P:Program}{h:Hp}{F:ah}{β:Type}{Q:β→ah→Prop}{t w:Nat}
theorem aFB[k:KV P t w]{f:Option (Nat×Value)→Sem β}{a:List Int}(h1:a.length=w):∀{m:List (List Int×Value)} {l:List MapEntry} {i:Nat},(∀b∈m,b.1.length=w)→l.map (fun e=>(e.key,e.val))=m.map (fun p=>(aBt p.1,p.2))→
  tr P h ((Instr.findAsking t (aBt a) l i).bind f) F Q=tr P h (f (aCJ a m i)) F Q
 | [],l,i,hw,hm=>by
  have:l=[]:=by simpa using hm
  subst this
  simp only[Instr.findAsking,au,bind_pure,aCJ]
 | b::m,[],i,hw,hm=>by cases hm
 | b::m,e::l,i,hw,hm=>by
  simp only[List.map_cons,List.cons.injEq,Prod.mk.injEq]at hm
  obtain⟨⟨hk,hv⟩,hm⟩:=hm
  have:=k.eq
  have hk':e.key= .agg (b.1.map nI).toArray:=hk
  simp only[Instr.findAsking,bind_eq,au,bind_assoc,hk',aBt,X7 h1 (hw b (List.mem_cons_self ..))]
  by_cases hab:a=b.1
  ·simp only[hab,decide_true,if_true,bind_pure,aCJ,hv]
  ·simp only[hab,decide_false,Bool.false_eq_true,if_false,aCJ]
   exact aFB h1 (fun c hc=>hw c (List.mem_cons_of_mem _ hc)) hm
theorem aHi[k:KV P t w]{f:Option (Nat×Value)→Sem β}{a:List Int}(h1:a.length=w){m:List (List Int×Value)}{l:List MapEntry}(hw:∀b∈m,b.1.length=w)(hm:l.map (fun e=>(e.key,e.val))=m.map (fun p=>(aBt p.1,p.2))):
  tr P h ((Instr.findKey t (aBt a) l).bind f) F Q=tr P h (f (aCJ a m 0)) F Q:=by
 obtain⟨d,hd,hda⟩:=k.ag
 have:TD P t d:=⟨hd⟩
 simp only[Instr.findKey,bind_eq,au,bind_assoc,aC]
 cases l with
 | nil=>
  have:m=[]:=by simpa using hm.symm
  subst this
  simp only[Instr.findNow,bind_pure,aCJ]
 | cons e l=>
  have hn:Instr.findNow d (aBt a) (e::l) 0=none:=by
   have:Instr.sameNow d (aBt a) e.key=none:=by
    rcases hda with⟨fs,rfl⟩ | ⟨n,el,rfl⟩ <;>rfl
   simp only[Instr.findNow,this]
  simp only[hn]
  exact aFB h1 hw hm
end
theorem aJi{m:List (List Int×Value)}:(awQ m).map (fun e=>(e.key,e.val))=m.map (fun p=>(aBt p.1,p.2)):=by
 rw[awQ,List.map_map]
 have:∀(l:List (List Int×Value)) (n:Nat),(l.zipIdx n).map ((fun e:MapEntry=>(e.key,e.val))∘fun p:(List Int×Value)×Nat=>{key:=aBt p.1.1,val:=p.1.2,born:=p.2:MapEntry})=l.map fun p=>(aBt p.1,p.2):=fun l=>by
  induction l with
  | nil=>intro n;rfl
  | cons a l ih=>intro n;rw[List.zipIdx_cons,List.map_cons,ih];rfl
 exact this m 0
section rules
variable{x:Cx}{ρ:Env}{F:ah}{S:ah→Prop}{o:Oper}{R:Value→ah→Prop}
theorem aJj{t kt vt w s b:Nat}{z:Value}{zc:Array Value}{y k:Operand}{β:Nat}{m:List (List Int×Value)}{a:List Int}{U:Obj→ah}(ho:o.op= .lookup t y k true)[TD x.P t (.map kt vt)][KV x.P kt w][TI x.P vt s b z zc](hy:ev ρ y=some (.map (some β)))(hk:ev ρ k=some (aBt a))(h1:a.length=w)(hw:∀b∈m,b.1.length=w)(hl:At β (ax6 m) F U)
  (Hy:∀v,(a,v)∈m→R (.tuple #[v,.bool true]) F) (Hn:a∉m.map (·.1)→R (.tuple #[z,.bool false]) F):Ef x ρ o F R:=
 Ef.xW fun e he h' hE=>by
  obtain⟨F1,F2,e1,e2⟩:=hl.split
  simp only[execOp,ho,he y _ hy,he k _ hk,Instr.lookup,bind_eq,au,bind_assoc,bind_pure,aC,if_true]
  refine⟨ax6 m,.inr (by rw[e1];simp),(fun _ _ _=>by simp),rfl,?_⟩
  simp only[au,bind_pure,bind_assoc]
  have e0:aBt a= .agg (a.map nI).toArray:=rfl
  rw[e0,aAc h1,←e0,aHi h1 hw aJi]
  cases hf:aCJ a m 0 with
  | none=>
   simp only[bind_assoc]
   rw[fG (P:=x.P) (t:=vt)]
   simp only[bind_pure]
   exact⟨_,.inl rfl,Hn (aFA hf)⟩
  | some r=>
   obtain⟨i,v⟩:=r
   simp only[bind_pure]
   exact⟨_,.inl rfl,Hy v (aFz hf)⟩
end rules
end Go.aS

/- What is frozen between two operations. Conditions: none; over any program. -/
namespace Go.aS
/-! ### Frozen between operations -/
end Go.aS

/- Marks of loops over functions, at a way out. Conditions: none; over any program. -/
namespace Go.aS
def aup(l:List Nat):ah:=l.map fun d=>(d,.deferred none)
theorem att:∀(l:List Nat),Shut (aup l)
 | []=>.nil
 | d::l=>.cons rfl (att l)
theorem avV{P:Program}{main:Side}{fn:Func}{h:Hp}{R:Value→ah→Prop}{e:Exit}{ρ:Env}:∀{l:List Nat} {G:ah},leave P main fn h R e ρ [] (G++aup l)→leave P main fn h R e ρ (auI l) (G++as3 l)
 | [],G,H=>H
 | d::l,G,H=>by
  refine lvm (U:=fun o=>G++((d,o)::as3 l)) ?_ (At.app At.head)
  have e1:G++((d,.deferred none)::as3 l)=(G++[(d,.deferred none)])++as3 l:=by simp
  show leave P main fn h R e ρ (auI l) (G++((d,.deferred none)::as3 l))
  rw[e1]
  refine avV ?_
  have e2:(G++[(d,Obj.deferred none)])++aup l=G++aup (d::l):=by simp[aup]
  rw[e2];exact H
end Go.aS

/- A stove at work. Conditions: none; over the given program. -/
namespace Go.aS
set_option maxRecDepth 100000
set_option maxHeartbeats 4000000
theorem aJk(main:Side)(h:Hp)(bs i:Nat):dV prog main aDz #[bI bs,I i] h [] (fun v A=>∃b1 b2,v= .func (.func aBT) #[] #[bI b1,bI b2]∧A=[(b2,.cells #[I i] dL (0,0)),(b1,.cells #[bI bs] asc (0,0))]):=by
 refine dV.aG aEY rfl (by show 2≤6;decide) [(0,bI bs),(1,I i)] ⟨rfl,rfl,trivial⟩ ?_
 refine W.seq<|W.region rfl ?_
 refine Ops.box (fun yR=>?_)
 refine Ops.box (fun uU=>?_)
 refine agb rfl rfl rfl<|pq<|W.seq<|W.region rfl ?_
 refine agW (y7 rfl rfl rfl) rfl ?_
 refine agb rfl rfl rfl<|pq<|W.ret ?_
 exact mg ⟨_,_,rfl,rfl⟩
abbrev aB9:Value:=.slice none 0 0
def stC(vs vc:Value)(n no ri to:Int)(vh:Value)(l:List Value)(mp:Nat):Array Value:= #[vs,vc,I n,I no,I ri,I to,vh,l.getD 0 aB9,l.getD 1 aB9,l.getD 2 aB9,.map (some mp)]
theorem aGL{vs vc vh:Value}{n:Nat}{no ri to:Int}{l:List Value}{mp:Nat}:StF (stC vs vc n no ri to vh l mp) vs vc vh n:=⟨rfl,rfl,rfl,rfl⟩
theorem aIQ{vs vc vh:Value}{n no ri to:Int}{l:List Value}{mp k:Nat}(hk:k<3):(stC vs vc n no ri to vh l mp)[7+k]? =some (l.getD k aB9):=by
 rcases(by omega:k=0∨k=1∨k=2)with rfl | rfl | rfl <;>rfl
theorem aJl{vs vc vh:Value}{n no ri to:Int}{l:List Value}{mp k:Nat}{v:Value}(hl:l.length=3)(hk:k<3):(stC vs vc n no ri to vh l mp).setIfInBounds (7+k) v=stC vs vc n no ri to vh (l.set k v) mp:=by
 obtain⟨a,b,c,rfl⟩:∃a b c,l=[a,b,c]:=by
  match l,hl with
  | [a,b,c],_=>exact⟨a,b,c,rfl⟩
 rcases(by omega:k=0∨k=1∨k=2)with rfl | rfl | rfl <;>rfl
def aDQ(sh:List Shf)(cn:List Cne)(hs:List Int)(k:Nat)(l:List Value)(F:ah):Prop:=
 l.length=3∧(∀j,k≤j→l.getD j aB9=aB9)∧∃Fs:List ah,Fs.length=k∧F=Fs.flatten∧∀j c S,cn[j]? =some c→Fs[j]? =some S→Os aBC Sd.row (l.getD j aB9) (aB8 sh c hs) S
theorem aDQ.zero{sh:List Shf}{cn:List Cne}{hs:List Int}:aDQ sh cn hs 0 [aB9,aB9,aB9] []:=
 ⟨rfl,fun j _=>by rcases j with _ | _ | _ | j <;>rfl,[],rfl,rfl,fun j c S _ h=>by simp at h⟩
theorem aDQ.next{sh:List Shf}{cn:List Cne}{hs:List Int}{k:Nat}{l:List Value}{F S:ah}{v:Value}{c:Cne}(H:aDQ sh cn hs k l F)(hk:k<3)(hc:cn[k]? =some c)(hS:Os aBC Sd.row v (aB8 sh c hs) S):aDQ sh cn hs (k+1) (l.set k v) (F++S):=by
 obtain⟨h1,h2,Fs,h3,rfl,h4⟩:=H
 refine⟨by rw[List.length_set];exact h1,fun j hj=>?_,Fs++[S],by simp[h3],by simp,fun j c' S' hc' hS'=>?_⟩
 ·rw[List.getD_eq_getElem?_getD,List.getElem?_set_ne (by omega),←List.getD_eq_getElem?_getD];exact h2 j (by omega)
 ·rcases Nat.lt_or_ge j Fs.length with hj | hj
  ·rw[List.getElem?_append_left hj]at hS'
   rw[List.getD_eq_getElem?_getD,List.getElem?_set_ne (by omega),←List.getD_eq_getElem?_getD]
   exact h4 j c' S' hc' hS'
  ·rw[List.getElem?_append_right hj]at hS'
   have hj0:j=Fs.length:=by
    rcases Nat.eq_zero_or_pos (j-Fs.length)with h0 | h0
    ·omega
    ·rw[List.getElem?_eq_none (by simp;omega)]at hS';cases hS'
   subst hj0
   rw[h3]at hc'⊢
   rw[hc]at hc';cases hc'
   have:S'=S:=by simpa using hS'.symm
   subst this
   rw[List.getD_eq_getElem?_getD,List.getElem?_set_self (by omega)]
   exact hS
theorem aHj(main:Side)(h:Hp)(sh:List Shf)(cn:List Cne)(hs:List Int)(no ri to:Int)(vs vc vh:Value)(Eg:TypeId)(zg:Nat×Nat)(h1:Sl h Shf.row vs sh)(h2:Sl h Cne.row vc cn)(h3:Sl h fH vh hs)(hok:aCr sh cn hs)(hg:h 0=some (.cells #[Ur qM] Eg zg)):
  dV prog main aDL #[aFr vs vc hs no ri to,vh] h [] (fun v A=>∃bs mp l F,v=bI bs∧aDQ sh cn hs cn.length l F∧Sb ((bs,.cells (stC vs vc hs.length no ri to vh l mp) U8 (0,0))::(mp,ax6 [])::F) A):=by
 have hd4:=hok.d4
 have hs3:=hok.s3
 have hc3:=hok.c3
 have k1:=h1
 have k2:=h2
 have k3:=h3
 obtain⟨a1,cap1,rfl⟩:=h1.dA
 obtain⟨a2,cap2,rfl⟩:=h2.dA
 obtain⟨a3,cap3,rfl⟩:=h3.dA
 refine dV.aG aE_ rfl (by show 2≤39;decide) [(0,aFr (.slice a1 sh.length cap1) (.slice a2 cn.length cap2) hs no ri to),(1,.slice a3 hs.length cap3)] ⟨rfl,rfl,trivial⟩ ?_
 refine W.seq<|W.region rfl ?_
 refine Ops.box (fun yR=>?_)
 refine agb rfl rfl rfl<|pq<|W.seq<|W.region rfl ?_
 first | refine ag2 rfl ?_ | refine agW (ady rfl rfl) rfl ?_
 refine qm rfl rfl rfl ?_
 refine oe rfl wn rfl rfl (Md rfl (fun mp _ _=>?_))
 refine agW (eH (cs:=stC (.slice a1 sh.length cap1) (.slice a2 cn.length cap2) hs.length no ri to (.slice a3 hs.length cap3) [aB9,aB9,aB9] mp) rfl rfl (by kernel_rfl)) rfl ?_
 refine Ops.box (fun Yf=>?_)
 refine Ops.new (fun mZ=>?_)
 refine Ops.yG ?_
 refine pq<|W.seq<|W.seq<|W.region rfl ?_
 refine agY rfl ?_
 refine agX rfl ?_
 refine agW (dM rfl rfl) rfl ?_
 refine qm rfl rfl rfl<|pq<|W.block ?_
 refine W.awj (σ:=Nat×List Value×ah×List Nat) (fun s=>auI s.2.2.2) (fun s=>s.1≤cn.length∧aDQ sh cn hs s.1 s.2.1 s.2.2.1) (fun s=>[(16,I s.1),(15,I cn.length),(5,bI mZ)]) (fun s=>(mZ,.cells #[bI Yf] asc (0,0))::(Yf,.cells (stC (.slice a1 sh.length cap1) (.slice a2 cn.length cap2) hs.length no ri to (.slice a3 hs.length cap3) s.2.1 mp) U8 (0,0))::(mp,ax6 [])::(s.2.2.1++as3 s.2.2.2)) (fun s=>cn.length-s.1) (0,[aB9,aB9,aB9],[],[]) ⟨Nat.zero_le _,.zero⟩ ⟨rfl,rfl,rfl,trivial⟩ (.cons (.cons (.cons (.skip rfl .refl)))) ?_
 rintro⟨k,l,F,mk⟩ ⟨hk,hF⟩
 replace hk:k≤cn.length:=hk
 replace hF:aDQ sh cn hs k l F:=hF
 refine W.env (ρ':=[(16,I k),(15,I cn.length),(5,bI mZ)]) ⟨rfl,rfl,rfl,trivial⟩ ?_
 refine W.sb (F':=(mZ,.cells #[bI Yf] asc (0,0))::(Yf,.cells (stC (.slice a1 sh.length cap1) (.slice a2 cn.length cap2) hs.length no ri to (.slice a3 hs.length cap3) l mp) U8 (0,0))::(mp,ax6 [])::(F++as3 mk)) .refl ?_
 refine W.seq<|W.region rfl ?_
 refine agW (fO rfl rfl rfl) rfl ?_
 refine pq<|W.seq ?_
 refine W.bC rfl (fun c17=>?_) (fun c17=>?_)
 ·obtain⟨c,hc,-⟩:=has (show k<cn.length by omega)
  have hk3:k<3:=by omega
  have hl3:l.length=3:=hF.1
  have hlk:l.set k aB9=l:=by
   have h:=hF.2.1 k (Nat.le_refl _)
   obtain⟨a,b,c,rfl⟩:∃a b c,l=[a,b,c]:=by
    match l,hl3 with
    | [a,b,c],_=>exact⟨a,b,c,rfl⟩
   rcases(by omega:k=0∨k=1∨k=2)with rfl | rfl | rfl <;>(simp at h;subst h;rfl)
  refine W.skip<|aA<|W.seq<|W.block<|W.seq<|W.region rfl<|qm rfl rfl rfl ?_
  refine Ops.new (fun yC=>?_)
  refine Ops.yG ?_
  refine pq<|W.seq<|W.region rfl ?_
  refine agX rfl ?_
  refine agX rfl ?_
  refine c0 (fun h' hE hL=>aJk _ h' Yf k) (fun v A' hv=>?_)
  obtain⟨b1,b2,rfl,rfl⟩:=hv
  refine pq<|W.block ?_
  refine W.aJh (Val:=aKi) (xs:=aB8 sh c hs) rfl rfl rfl
   (fun j A=>∃w T,Os aBC Sd.row w ((aB8 sh c hs).take j) T∧A=(Yf,.cells (stC (.slice a1 sh.length cap1) (.slice a2 cn.length cap2) hs.length no ri to (.slice a3 hs.length cap3) (l.set k w) mp) U8 (0,0))::T)
   (fun _ _ _ _=>False) (.tail (.tail (.tail (.tail .head)))) ⟨aB9,[],by simpa using Os.nil .nil,by rw[hlk]⟩ (aKj Yf (.slice a1 sh.length cap1) (.slice a2 cn.length cap2) (.slice a3 hs.length cap3) hs.length)
   (
    fun j B y hB=>by
    obtain⟨w,T,-,rfl⟩:=hB
    exact⟨_,_,.refl _,aGL⟩)
   (fun h' hE hL=>aIP _ h' sh cn hs _ _ _ Yf b1 b2 _ _ _ _ _ _ (k1.ext hE) (k2.ext hE) (k3.ext hE) hok (hE.1 _ _ hg) k c hc (hL b1 _ (.tail _ (.head _))) (hL b2 _ (.head _))) ?_ ?_
  ·rintro j p v S1 A1 hp ⟨rfl,rfl⟩ ⟨w,T,hT,rfl⟩ l1 h9 hE9 hL9 hS9
   refine W.region rfl ?_
   refine Ops.new (fun Vo=>?_)
   first | refine Ops.jP ?_ | refine Ops.nY ?_
   refine Ops.nil ?_
   refine⟨rfl,rfl,fun h1 hE1 hL1=>?_⟩
   intro hS0
   have h5:h1 mZ=some (.cells #[bI Yf] asc (0,0)):=hL1 _ _ (by repeat(first | exact List.Mem.head _ | apply List.Mem.tail))
   have h6:h1 yC=some (.cells #[I k] dL (0,0)):=hL1 _ _ (by repeat(first | exact List.Mem.head _ | apply List.Mem.tail))
   have hjl:j<(aB8 sh c hs).length:=by
    rcases Nat.lt_or_ge j (aB8 sh c hs).length with h' | h'
    ·exact h'
    ·rw[List.getElem?_eq_none h']at hp;cases hp
   have hln:=aHd (sh:=sh) (c:=c) (hs:=hs)
   have aKN:sh.length*hs.length≤12:=Nat.mul_le_mul hs3 hd4
   have htk:((aB8 sh c hs).take j).length≤12:=by rw[List.length_take];omega
   have hls:(l.set k w).length=3:=by rw[List.length_set];exact hl3
   have hat:(stC (.slice a1 sh.length cap1) (.slice a2 cn.length cap2) hs.length no ri to (.slice a3 hs.length cap3) (l.set k w) mp)[0+7+k*1]? =some w:=by
    rw[show 0+7+k*1=7+k by omega,aIQ hk3,List.getD_eq_getElem?_getD,List.getElem?_set_self (by omega)];rfl
   have hsz:0+7+k*1<(stC (.slice a1 sh.length cap1) (.slice a2 cn.length cap2) hs.length no ri to (.slice a3 hs.length cap3) (l.set k w) mp).size:=by show _<11;omega
   refine W.block ?_
   refine W.DR [(Vo,.cells #[I p.sh,I p.da] aBC (0,0)),(Yf,.cells (stC (.slice a1 sh.length cap1) (.slice a2 cn.length cap2) hs.length no ri to (.slice a3 hs.length cap3) (l.set k w) mp) U8 (0,0))] (n:=15) rfl ?_
   refine xq 0 (iQ rfl rfl) rfl ?_
   refine xq 1 (iQ rfl rfl) rfl ?_
   refine xq 2 (iQ rfl rfl) rfl ?_
   refine xq 3 (iQ rfl rfl) rfl ?_
   first | refine xq 4 (bg rfl rfl) rfl ?_ | refine xq 4 (aT rfl rfl) rfl ?_
   refine xq 5 (ay rfl rfl) rfl ?_
   first | refine xq 6 (UN rfl rfl rfl) rfl ?_ | refine xq 6 (Qg rfl rfl rfl) rfl ?_
   refine xq 7 (iQ rfl rfl) rfl ?_
   first | refine xq 8 (Bf rfl rfl) rfl ?_ | refine xq 8 (zi rfl rfl) rfl ?_ | refine xq 8 (ady rfl rfl) rfl ?_
   first | refine xq 11 (bg rfl rfl) rfl ?_ | refine xq 11 (aT rfl rfl) rfl ?_
   refine xq 12 (ay rfl rfl) rfl ?_
   refine abl (i:=9) (cs:= #[I p.sh,I p.da]) (fun aul=>?_) rfl
   refine ae (i:=10) rfl an rfl rfl (iW (row:=Sd.row) (l':=[p]) rfl rfl rfl hT (.tail (.tail (.tail .all))) (fun h2 _ hl=>Sl.mk (hl aul _ (.head _)) rfl (Part.all [I p.sh,I p.da])) (by simp only[List.length_cons,List.length_nil];omega) (by decide) rfl (fun w' T' hT'=>?_))
   refine⟨.inr (by repeat(first | exact Keeps.nil | refine Keeps.one (by repeat(first | exact List.Mem.head _ | apply List.Mem.tail)) ?_)),?_⟩
   obtain⟨wa,wc,rfl⟩:=hT'.dA
   first | refine xq 13 (UN rfl rfl rfl) rfl ?_ | refine xq 13 (Qg rfl rfl rfl) rfl ?_
   refine ae (i:=14) rfl an rfl rfl (eS rfl rfl rfl ?_)
   refine⟨.inl (by kernel_rfl),?_⟩
   refine az ?_
   refine dI ?_
   refine⟨rfl,.inl ⟨rfl,_,⟨_,T',by rw[List.take_add_one,hp];exact hT',rfl⟩,?_⟩⟩
   rw[show 0+7+k*1=7+k by omega,aJl hls hk3,List.set_set]
   exact .skip rfl (.skip rfl .refl)
  ·rintro e2 A2 hA2 d
   obtain⟨rfl,w,S,hS,rfl⟩:e2= .normal∧∃w T,Os aBC Sd.row w ((aB8 sh c hs).take (aB8 sh c hs).length) T∧A2=(Yf,.cells (stC (.slice a1 sh.length cap1) (.slice a2 cn.length cap2) hs.length no ri to (.slice a3 hs.length cap3) (l.set k w) mp) U8 (0,0))::T:=by
    rcases hA2 with h | ⟨_,_,_,_,_,_,_,hx,_⟩
    ·exact h
    ·exact hx.elim
   rw[List.take_length]at hS
   refine dI<|dI<|aA<|W.region rfl ?_
   refine ag1 rfl ?_
   refine qm rfl rfl rfl<|pq ?_
   refine⟨(k+1,l.set k w,F++S,d::mk),rfl,⟨by simp only;omega,hF.next hk3 hc hS⟩,by simp only;omega,⟨rfl,rfl,rfl,trivial⟩,?_⟩
   show Sb ((mZ,.cells #[bI Yf] asc (0,0))::(Yf,.cells (stC (.slice a1 sh.length cap1) (.slice a2 cn.length cap2) hs.length no ri to (.slice a3 hs.length cap3) (l.set k w) mp) U8 (0,0))::(mp,ax6 [])::((F++S)++((d,.deferred (some []))::as3 mk))) _
   refine Sb.trans (B:=(d,.deferred (some []))::(mZ,.cells #[bI Yf] asc (0,0))::(((Yf,.cells (stC (.slice a1 sh.length cap1) (.slice a2 cn.length cap2) hs.length no ri to (.slice a3 hs.length cap3) (l.set k w) mp) U8 (0,0))::S)++((mp,ax6 [])::(F++as3 mk)))) (.dF (agQ fun y=>by simp only[List.count_append,List.count_cons,List.count_nil];omega)) ?_
   exact .cons (.skip rfl (.skip rfl (.skip rfl .refl)))
 ·obtain rfl:k=cn.length:=by omega
  refine W.exit<|bP<|bP<|gG<|aA<|W.seq<|W.region rfl ?_
  refine agX rfl ?_
  refine agb rfl rfl rfl<|pq<|W.ret ?_
  show leave prog main _ _ _ _ _ (auI mk) (((mZ,.cells #[bI Yf] asc (0,0))::(Yf,.cells (stC (.slice a1 sh.length cap1) (.slice a2 cn.length cap2) hs.length no ri to (.slice a3 hs.length cap3) l mp) U8 (0,0))::(mp,ax6 [])::F)++as3 mk)
  refine avV (mg (vs:=[bI Yf]) ⟨Yf,mp,l,F,rfl,hF,?_⟩)
  exact .right (.skip rfl .refl) (att mk)
end Go.aS

/- All plans, gone through. Conditions: none; over the given program. -/
namespace Go.aS
set_option maxRecDepth 100000
set_option maxHeartbeats 4000000
theorem Qy{α:Type}{xs a b:List α}{k:Nat}(h:xs.drop k=a++b):xs.drop (k+a.length)=b:=by
 rw[←List.drop_drop,h,List.drop_left]
theorem drop_at{α:Type}{xs b:List α}{x:α}{k:Nat}(h:xs.drop k=x::b):xs[k]? =some x:=by
 have:=congrArg (fun l=>l[0]?) h
 simpa[List.getElem?_drop]using this
theorem VF{α β:Type}{os:List α}{g:α→List β}{j:Nat}{p:α}(h:os[j]? =some p):(os.take (j+1)).flatMap g=(os.take j).flatMap g++g p:=by
 rw[List.take_add_one,h,List.flatMap_append];simp
theorem VG{α β:Type}{os:List α}{g:α→List β}{xs rest:List β}{k j:Nat}{p:α}(hx:xs.drop k=os.flatMap g++rest)(h:os[j]? =some p):xs.drop (k+((os.take j).flatMap g).length)=g p++((os.drop (j+1)).flatMap g++rest):=by
 have hj:j<os.length:=by
  rcases Nat.lt_or_ge j os.length with h' | h'
  ·exact h'
  ·rw[List.getElem?_eq_none h']at h;cases h
 obtain⟨p',hp',hd⟩:=has hj
 rw[h]at hp'
 cases hp'
 refine Qy (b:=g p++((os.drop (j+1)).flatMap g++rest)) ?_
 rw[hx]
 have e:os.flatMap g=(os.take j).flatMap g++(g p++(os.drop (j+1)).flatMap g):=
  calc os.flatMap g=(os.take j++os.drop j).flatMap g:=by rw[List.take_append_drop]
   _=_:=by rw[hd,List.flatMap_append,List.flatMap_cons]
 rw[e]
 simp only[List.append_assoc]
def pC(p:List Sd):Array Value:=(flat Sd.row p).toArray
abbrev spV(p:List Sd):Value:=.agg (pC p)
theorem three{α:Type}{l:List α}(h:l.length=3):∃a b c,l=[a,b,c]:=by
 match l,h with
 | [a,b,c],_=>exact⟨a,b,c,rfl⟩
theorem aC9{p:List Sd}(h:p.length=3):(pC p).size=6:=by
 obtain⟨a,b,c,rfl⟩:=three h;rfl
theorem aFM{p:List Sd}(h:p.length=3):ones (pC p).toList=true:=by
 obtain⟨a,b,c,rfl⟩:=three h;rfl
theorem aIR{p:List Sd}(h:p.length=3){i:Nat}(hi:i<3){a:Sd}:jv (pC p) (0+i*2) [I a.sh,I a.da]=pC (p.set i a):=by
 obtain⟨x,y,z,rfl⟩:=three h
 rcases(by omega:i=0∨i=1∨i=2)with rfl | rfl | rfl <;>rfl
def aJQ(x:List Sd)(v:Value)(S:ah):Prop:=v=spV x∧S=[]
def aHk(xs:List (List Sd))(J:Nat→ah→Prop)(K:Nat→Value→ah→Prop)(k2:Nat)(v:Value)(A':ah):Prop:=
 (v= .bool true∧∃B,J k2 B∧Sb B A')∨(v= .bool false∧∃k x B,xs[k]? =some x∧K k (spV x) B∧Sb B A')
theorem aHk.bool{xs:List (List Sd)}{J:Nat→ah→Prop}{K:Nat→Value→ah→Prop}{k2:Nat}{v:Value}{A':ah}(h:aHk xs J K k2 v A'):∃r,v= .bool r:=by
 rcases h with⟨h,_⟩ | ⟨h,_⟩
 ·exact⟨_,h⟩
 ·exact⟨_,h⟩
theorem aHk.sb{xs:List (List Sd)}{J:Nat→ah→Prop}{K:Nat→Value→ah→Prop}{k2 k3:Nat}{A' A2:ah}(h:aHk xs J K k2 (.bool false) A')(s:Sb A' A2):aHk xs J K k3 (.bool false) A2:=by
 rcases h with⟨h,_⟩ | ⟨_,k,x,B,h1,h2,h3⟩
 ·cases h
 ·exact .inr ⟨rfl,k,x,B,h1,h2,h3.trans s⟩
theorem aHk.go{xs:List (List Sd)}{J:Nat→ah→Prop}{K:Nat→Value→ah→Prop}{k2:Nat}{A':ah}(h:aHk xs J K k2 (.bool true) A'):∃B,J k2 B∧Sb B A':=by
 rcases h with⟨_,h⟩ | ⟨h,_⟩
 ·exact h
 ·cases h
def aEO(n:Nat):Nat:=2 ^ n-1
theorem aJm{n:Nat}(h:n≤3):aEO n<8:=by
 rcases(by omega:n=0∨n=1∨n=2∨n=3)with rfl | rfl | rfl | rfl <;>decide
theorem aIS{n i:Nat}(h:n≤3)(hi:i<n):(aEO n).testBit i=true:=by
 unfold aEO
 rw[Nat.testBit_two_pow_sub_one];simpa using hi
abbrev aAW(b3 b4 b5 b6 b7:Nat):Value:=.func (.func aBV) #[] #[bI b3,bI b4,bI b5,bI b6,bI b7]
theorem aBi(main:Side)(sh:List Shf)(cn:List Cne)(hs:List Int)(no ri to:Int)(vs vc vh yv:Value)(l:List Value)(mp bs b3 b4 b5 b6 b7:Nat)(Eg Es E3 E4 E5 E6 E7:TypeId)(zg zs z3 z4 z5 z6 z7:Nat×Nat)(hok:aCr sh cn hs)(hy1:one yv=true)(xs:List (List Sd))(J:Nat→ah→Prop)(K:Nat→Value→ah→Prop):
  ∀(cs:List Cne) (i:Nat) (p:List Sd) (q:List Nat) (h:Hp) (k:Nat) (rest:List (List Sd)) (A:ah),cn.drop i=cs→i≤cn.length→p.length=3→QOK q→Sl h Shf.row vs sh→Sl h Cne.row vc cn→Sl h fH vh hs→h 0=some (.cells #[Ur qM] Eg zg)→
   h bs=some (.cells (stC vs vc hs.length no ri to vh l mp) Es zs)→(∀j c,cn[j]? =some c→Sl h Sd.row (l.getD j aB9) (aB8 sh c hs))→
   h b3=some (.cells #[bI bs] E3 z3)→h b4=some (.cells #[yv] E4 z4)→h b5=some (.cells #[.bool false] E5 z5)→h b6=some (.cells #[B8 (aEO cn.length)] E6 z6)→h b7=some (.cells #[aAW b3 b4 b5 b6 b7] E7 z7)→
   Vw prog main yv h aJQ xs J K→xs.drop k=aBW sh hs cs i p q++rest→J k A→
   dV prog main aBV #[spV p,.agg (qC q),I i,bI b3,bI b4,bI b5,bI b6,bI b7] h A (aHk xs J K (k+(aBW sh hs cs i p q).length)):=by
 have hd4:=hok.d4
 have hs3:=hok.s3
 have hc3:=hok.c3
 intro cs
 induction cs with
 | nil=>
  intro i p q h k rest A hd hi hp3 hq h1 h2 h3 hg hbs hst hb3 hb4 hb5 hb6 hb7 hy hx hJ
  have hin:i=cn.length:=by
   have:=congrArg List.length hd
   simp at this;omega
  have hsp:=aC9 hp3
  have hop:=aFM hp3
  have hsq:(qC q).size=12:=by rw[aDY,hq.len]
  obtain⟨a2,cap2,rfl⟩:=h2.dA
  refine dV.aG aCm rfl (by show 8≤81;decide) [(0,spV p),(1,.agg (qC q)),(2,I i),(3,bI b3),(4,bI b4),(5,bI b5),(6,bI b6),(7,bI b7)] ⟨rfl,rfl,rfl,rfl,rfl,rfl,rfl,rfl,trivial⟩ ?_
  refine W.seq<|W.region rfl ?_
  refine Ops.box (cs:=pC p) (fun yD=>?_)
  refine Ops.box (cs:=qC q) (fun Uw=>?_)
  refine agb rfl rfl rfl<|pq<|W.seq<|W.seq<|W.region rfl<|qm rfl rfl rfl ?_
  refine agX rfl ?_
  refine ag4 rfl ?_
  refine agY rfl ?_
  refine agY rfl ?_
  refine agW (iQ rfl rfl (.inl hbs) rfl) rfl ?_
  refine agW (dM rfl rfl) rfl ?_
  refine agW (nD rfl rfl rfl) rfl ?_
  refine pq ?_
  refine W.bC rfl (fun Qc=>?_) (fun Qc=>?_)
  ·refine W.seq<|W.region rfl ?_
   refine agX rfl ?_
   first | refine ag2 rfl ?_ | refine agW (ady rfl rfl) rfl ?_
   refine cgv (.tail (.tail .all)) (fun h2 hE hL=>hy h2 hE k p (spV p) [] A (drop_at hx) ⟨rfl,rfl⟩ (fun b o h=>by cases h) hJ) (fun r B1 hr1=>?_)
   refine agb rfl rfl rfl<|pq<|W.ret<|aY ?_
   have e1:(aBW sh hs [] i p q).length=1:=rfl
   rw[e1]
   rcases hr1 with⟨rfl,B,hJB,hsb⟩ | ⟨rfl,B,hKB,hsb⟩
   ·exact mg (vs:=[.bool true]) (.inl ⟨rfl,B,hJB,.skip rfl (.skip rfl hsb)⟩)
   ·exact mg (vs:=[.bool false]) (.inr ⟨rfl,k,p,B,drop_at hx,hKB,.skip rfl (.skip rfl hsb)⟩)
  ·exact absurd Qc (by rw[hin];simp)
 | cons c cs ih=>
  intro i p q h k rest A hd hi hp3 hq h1 h2 h3 hg hbs hst hb3 hb4 hb5 hb6 hb7 hy hx hJ
  have hil:i<cn.length:=by
   have:=congrArg List.length hd
   simp at this;omega
  obtain⟨c',hci,hdr⟩:=has hil
  rw[hd]at hdr
  injection hdr with e1 e2
  subst e1
  have hi3:i<3:=by omega
  obtain⟨g,hg0⟩:∃g:Sd→List (List Sd),g=fun a=>if aCG sh hs (aDw sh hs q i c a)then aBW sh hs cs (i+1) (p.set i a) (aDw sh hs q i c a)else[]:=⟨_,rfl⟩
  have hsh:aBW sh hs (c::cs) i p q=aBW sh hs cs (i+1) (p.set i off) q++(aB8 sh c hs).flatMap g:=by rw[hg0];rfl
  rw[hsh]at hx⊢
  rw[List.append_assoc]at hx
  have hx2:=Qy hx
  have hls:=hst i c hci
  obtain⟨a4,cap4,hv4⟩:=hls.dA
  have hsp:=aC9 hp3
  have hop:=aFM hp3
  have hsq:(qC q).size=12:=by rw[aDY,hq.len]
  have hso:=aC9 (p:=p.set i off) (by rw[List.length_set];exact hp3)
  have hln:=aHd (sh:=sh) (c:=c) (hs:=hs)
  have aKN:sh.length*hs.length≤12:=Nat.mul_le_mul hs3 hd4
  have hat:(stC vs vc hs.length no ri to vh l mp)[0+7+i*1]? =some (.slice a4 (aB8 sh c hs).length cap4):=by
   rw[show 0+7+i*1=7+i by omega,aIQ hi3,hv4]
  have k1:=h1
  have k2:=h2
  have k3:=h3
  obtain⟨a2,cap2,rfl⟩:=h2.dA
  refine dV.aG aCm rfl (by show 8≤81;decide) [(0,spV p),(1,.agg (qC q)),(2,I i),(3,bI b3),(4,bI b4),(5,bI b5),(6,bI b6),(7,bI b7)] ⟨rfl,rfl,rfl,rfl,rfl,rfl,rfl,rfl,trivial⟩ ?_
  refine W.seq<|W.region rfl ?_
  refine Ops.box (cs:=pC p) (fun yD=>?_)
  refine Ops.box (cs:=qC q) (fun Uw=>?_)
  refine agb rfl rfl rfl<|pq<|W.seq<|W.seq<|W.region rfl<|qm rfl rfl rfl ?_
  refine agX rfl ?_
  refine ag4 rfl ?_
  refine agY rfl ?_
  refine agY rfl ?_
  refine agW (iQ rfl rfl (.inl hbs) rfl) rfl ?_
  refine agW (dM rfl rfl) rfl ?_
  refine agW (nD rfl rfl rfl) rfl ?_
  refine pq ?_
  refine W.bC rfl (fun Qc=>?_) (fun Qc=>?_)
  ·exact absurd Qc (by omega)
  ·refine W.skip<|aA<|W.seq<|W.region rfl<|qm rfl rfl rfl ?_
   refine agW (eH rfl rfl rfl) rfl ?_
   first | refine agW (UN rfl rfl rfl) rfl ?_ | refine agW (Qg rfl rfl rfl) rfl ?_
   refine Ops.nY (vs:= #[I (-1),I 0]) ?_ (hc:=by rw[hsp];show 0+i*2+2≤6;omega)
   refine pq<|W.seq ?_
   rw[show jv (pC p) (0+i*2) (#[I (-1),I 0]:Array Value).toList=pC (p.set i off)from aIR hp3 hi3 (a:=off)]
   refine W.seq<|W.region rfl ?_
   refine agX rfl ?_
   refine KU (xU rfl rfl) (show Value.bool (!false)= .bool true from rfl) rfl wn rfl rfl ?_
   refine qm rfl rfl rfl ?_
   refine Ops.no ?_
   refine Ops.no ?_
   refine Ops.no ?_
   refine Ops.no ?_
   refine agW (dG rfl rfl rfl) rfl ?_
   refine qm rfl rfl rfl ?_
   refine oq (iQ rfl rfl) rfl (ak rfl rfl rfl) rfl rfl ?_
   first | refine oq (Bf rfl rfl) rfl (ak rfl rfl rfl) rfl rfl ?_ | refine oq (zi rfl rfl) rfl (ak rfl rfl rfl) rfl rfl ?_ | refine oq (ady rfl rfl) rfl (ak rfl rfl rfl) rfl rfl ?_
   first | refine oq (Bf rfl rfl) rfl (ak rfl rfl rfl) rfl rfl ?_ | refine oq (zi rfl rfl) rfl (ak rfl rfl rfl) rfl rfl ?_ | refine oq (ady rfl rfl) rfl (ak rfl rfl rfl) rfl rfl ?_
   refine oq (aN rfl rfl) rfl (ak rfl rfl rfl) rfl rfl ?_
   first | refine oq (Zi rfl rfl rfl) rfl (ak rfl rfl rfl) rfl rfl ?_ | refine oq (MZ rfl rfl rfl) rfl (ak rfl rfl rfl) rfl rfl ?_
   refine cgv (.tail (.tail .all)) (fun h4 e4 hL=>gZ.zh (fi:=[]) (args:=[_,_,_]) (ca:=[_,_,_,_,_]) (ih (i+1) (p.set i off) q h4 k _ A (by rw[←List.drop_drop,hd];rfl) (by omega) (by rw[List.length_set];exact hp3) hq (k1.ext e4) (k2.ext e4) (k3.ext e4) (e4.1 _ _ hg) (e4.1 _ _ hbs) (fun j c' hj=>(hst j c' hj).ext e4) (e4.1 _ _ hb3) (e4.1 _ _ hb4) (e4.1 _ _ hb5) (e4.1 _ _ hb6) (e4.1 _ _ hb7) (hy.ext e4) hx hJ)) (fun r B1 hr1=>?_)
   obtain⟨r,rfl⟩:=hr1.bool
   refine oq (xU rfl rfl) rfl (ak rfl rfl rfl) rfl rfl ?_
   refine agW (dG rfl rfl rfl) rfl ?_
   refine pq ?_
   refine W.cond rfl (fun c45=>?_) (fun c45=>?_)
   ·refine W.seq<|W.region rfl<|agb rfl rfl rfl<|pq<|W.ret<|aY ?_
    obtain rfl:=adS c45
    exact mg (vs:=[.bool false]) (hr1.sb (.skip rfl (.skip rfl .refl)))
   ·obtain rfl:=adT c45
    obtain⟨A2,hJ2,Oh⟩:=hr1.go
    refine W.sb (F':=(Uw,.cells (qC q) Pn (0,0))::(yD,.cells (pC (p.set i off)) aBq (0,0))::A2) (.cons (.cons Oh)) ?_
    refine W.skip<|aA<|W.seq<|W.seq<|W.region rfl ?_
    refine agX rfl ?_
    refine qm rfl rfl rfl ?_
    refine cp (u:=.bool true) (fun h' hE hL=>?_) ?_
    ·have:=aHV main h' (aEO cn.length) i (aJm hc3) hi3
     rwa[aIS hc3 hil]at this
    refine KU (xU rfl rfl) (show Value.bool (!true)= .bool false from rfl) rfl wn rfl rfl ?_
    refine pq ?_
    refine W.bZ ?_
    refine W.skip<|aA<|W.seq<|W.seq<|W.region rfl ?_
    refine agX rfl ?_
    refine qm rfl rfl rfl ?_
    refine ag4 rfl ?_
    refine agY rfl ?_
    first | refine agW (UN rfl rfl rfl) rfl ?_ | refine agW (Qg rfl rfl rfl) rfl ?_
    refine agW (iQ rfl rfl (.inl hbs) hat) rfl ?_
    refine agW (dM rfl rfl) rfl ?_
    refine qm rfl rfl rfl<|pq<|W.block ?_
    refine W.Js (fun(j:Nat) (p2:List Sd) (A:ah)=>j≤(aB8 sh c hs).length∧(p2.length=3∧∀a,p2.set i a=p.set i a)∧J (k+(aBW sh hs cs (i+1) (p.set i off) q).length+(((aB8 sh c hs).take j).flatMap g).length) A) (fun j _ _=>[(57,I j),(56,I (aB8 sh c hs).length),(55,.slice a4 (aB8 sh c hs).length cap4),(2,I i),(3,bI b3),(4,bI b4),(5,bI b5),(6,bI b6),(7,bI b7),(8,bI yD),(9,bI Uw)])
     (fun _ p2 A=>(Uw,.cells (qC q) Pn (0,0))::(yD,.cells (pC p2) aBq (0,0))::A) (fun j _ _=>(aB8 sh c hs).length-j) 0 (p.set i off) A2 ⟨Nat.zero_le _,⟨by rw[List.length_set];exact hp3,fun a=>by rw[List.set_set]⟩,by simpa using hJ2⟩ ⟨rfl,rfl,rfl,rfl,rfl,rfl,rfl,rfl,rfl,rfl,rfl,trivial⟩ .refl ?_
    clear hr1 Oh hJ2
    rintro j p2 A ⟨hj,⟨aJR,hpa⟩,hJ⟩
    refine W.seq<|W.region rfl ?_
    refine agW (fO rfl rfl rfl) rfl ?_
    refine pq<|W.seq ?_
    refine W.bC rfl (fun c58=>?_) (fun c58=>?_)
    ·have hjl:j<(aB8 sh c hs).length:=by omega
     obtain⟨a,haj,-⟩:=has hjl
     have ham:=List.mem_of_getElem? haj
     have hx3:=VG hx2 haj
     have hnx:=VF (g:=g) haj
     have hsp2:=aC9 aJR
     rw[hv4]at hls
     obtain⟨b,off',c',E,fz,e1,hb,hxx,hyy,hww⟩:=hls.at haj
     cases e1
     have hx':c'.extract (off'+j*2) (off'+j*2+2)= #[I a.sh,I a.da]:=hxx
     clear hxx hww
     have hq2:QOK (aDw sh hs q i c a):=hq.aDw hi3
     have hoq:ones (qC q).toList=true:=aG0
     have aLm:(qC (aDw sh hs q i c a)).size=12:=by rw[aDY,hq2.len]
     refine W.skip<|aA<|W.seq<|W.block<|W.seq<|W.region rfl ?_
     refine ag3 rfl ?_
     first | refine ag2 rfl ?_ | refine agW (ady rfl rfl) rfl ?_
     refine Ops.new (fun X5=>?_)
     first | refine Ops.jP ?_ | refine Ops.nY ?_
     refine pq<|W.seq<|W.region rfl ?_
     first | refine ag2 rfl ?_ | refine agW (ady rfl rfl) rfl ?_
     refine Ops.new (fun aht=>?_)
     first | refine Ops.jP ?_ | refine Ops.nY ?_
     refine pq<|W.seq<|W.region rfl ?_
     refine agX rfl ?_
     refine qm rfl rfl rfl ?_
     first | refine ag2 rfl ?_ | refine agW (ady rfl rfl) rfl ?_
     refine cg (A:=[(aht,.cells (qC q) Pn (0,0))]) .head (fun h' hE hL=>aIM _ h' sh cn hs _ _ _ bs aht _ _ _ _ _ aGL (hE.1 _ _ hbs) (k1.ext hE) (k2.ext hE) (k3.ext hE) hok (hE.1 _ _ hg) i c hci a ham q hq) (fun v A' hv=>?_)
     refine Ops.sb (F':=(aht,.cells (qC (aDw sh hs q i c a)) Pn (0,0))::(X5,.cells #[I a.sh,I a.da] aBC (0,0))::(Uw,.cells (qC q) Pn (0,0))::(yD,.cells (pC p2) aBq (0,0))::A) (hv.app .refl) ?_
     refine pq<|W.seq<|W.seq<|W.region rfl ?_
     refine agX rfl ?_
     first | refine ag2 rfl ?_ | refine agW (ady rfl rfl) rfl ?_
     refine cp (fun h' hE hL=>aHW _ h' sh cn hs _ _ _ bs _ _ _ aGL (hE.1 _ _ hbs) (k1.ext hE) hok _ hq2) ?_
     refine agW (xU rfl rfl) rfl ?_
     refine pq ?_
     refine W.cond rfl (fun c69=>?_) (fun c69=>?_)
     ·refine W.exit<|bP<|gG<|aA<|W.region rfl ?_
      refine ag1 rfl ?_
      refine qm rfl rfl rfl<|pq ?_
      have V8:g a=[]:=by
       rw[hg0]
       simp only
       rw[if_neg (by rw[adS c69];simp)]
      rw[V8,List.append_nil]at hnx
      exact⟨rfl,j+1,p2,A,⟨hjl,⟨aJR,hpa⟩,by rw[hnx];exact hJ⟩,by omega,⟨rfl,rfl,rfl,rfl,rfl,rfl,rfl,rfl,rfl,rfl,rfl,trivial⟩,.skip rfl (.skip rfl .refl)⟩
     ·refine W.skip<|aA<|W.seq<|W.region rfl ?_
      have hrm:=adT c69
      have V8:g a=aBW sh hs cs (i+1) (p.set i a) (aDw sh hs q i c a):=by
       rw[hg0]
       simp only
       rw[if_pos hrm]
      refine qm rfl rfl rfl ?_
      first | refine ag2 rfl ?_ | refine agW (ady rfl rfl) rfl ?_
      first | refine agW (UN rfl rfl rfl) rfl ?_ | refine agW (Qg rfl rfl rfl) rfl ?_
      refine Ops.nY (vs:= #[I a.sh,I a.da]) ?_ (hc:=by rw[hsp2];show 0+i*2+2≤6;omega)
      refine pq ?_
      rw[show jv (pC p2) (0+i*2) (#[I a.sh,I a.da]:Array Value).toList=pC (p2.set i a)from aIR aJR hi3 (a:=a),hpa]
      have aLn:=aC9 (p:=p.set i a) (by rw[List.length_set];exact hp3)
      refine W.seq<|W.region rfl ?_
      refine agX rfl ?_
      first | refine ag2 rfl ?_ | refine agW (ady rfl rfl) rfl ?_
      first | refine ag2 rfl ?_ | refine agW (ady rfl rfl) rfl ?_
      refine qm rfl rfl rfl ?_
      refine ag1 rfl ?_
      refine cgv (.tail (.tail (.tail (.tail .all)))) (fun h4 e4 hL=>gZ.zh (fi:=[]) (args:=[_,_,_]) (ca:=[_,_,_,_,_]) (ih (i+1) (p.set i a) (aDw sh hs q i c a) h4 _ _ A (by rw[←List.drop_drop,hd];rfl) (by omega) (by rw[List.length_set];exact hp3) hq2 (k1.ext e4) (k2.ext e4) (k3.ext e4) (e4.1 _ _ hg) (e4.1 _ _ hbs) (fun j c' hj=>(hst j c' hj).ext e4) (e4.1 _ _ hb3) (e4.1 _ _ hb4) (e4.1 _ _ hb5) (e4.1 _ _ hb6) (e4.1 _ _ hb7) (hy.ext e4) (V8▸hx3) hJ)) (fun r B1 hr1=>?_)
      obtain⟨r,rfl⟩:=hr1.bool
      refine agW (xU rfl rfl) rfl ?_
      refine pq ?_
      refine W.cond rfl (fun c79=>?_) (fun c79=>?_)
      ·refine W.seq<|W.region rfl<|agb rfl rfl rfl<|pq<|W.ret<|cZ<|aY<|aY<|cZ ?_
       refine aY ?_
       obtain rfl:=adS c79
       exact mg (vs:=[.bool false]) (hr1.sb (.skip rfl (.skip rfl (.skip rfl (.skip rfl .refl)))))
      ·refine W.skip<|dI<|aA<|W.region rfl ?_
       refine ag1 rfl ?_
       refine qm rfl rfl rfl<|pq ?_
       obtain rfl:=adT c79
       obtain⟨A3,hJ3,afy⟩:=hr1.go
       exact⟨rfl,j+1,p.set i a,A3,⟨hjl,⟨by rw[List.length_set];exact hp3,fun a=>by rw[List.set_set]⟩,by rw[hnx,List.length_append,←Nat.add_assoc,V8];exact hJ3⟩,by omega,⟨rfl,rfl,rfl,rfl,rfl,rfl,rfl,rfl,rfl,rfl,rfl,trivial⟩,.skip rfl (.skip rfl (.cons (.cons afy)))⟩
    ·obtain rfl:j=(aB8 sh c hs).length:=by omega
     rw[List.take_length]at hJ
     refine W.exit<|bP<|bP<|gG<|aA<|W.seq<|W.region rfl<|agb rfl rfl rfl<|pq ?_
     refine W.ret ?_
     refine mg (vs:=[.bool true]) (.inl ⟨rfl,A,?_,.skip rfl (.skip rfl .refl)⟩)
     rw[List.length_append,←Nat.add_assoc];exact hJ
end Go.aS

/- An array is built. Conditions: none; over any program. -/
namespace Go.aS
theorem aAx{x:Cx}{ρ:Env}{o:Oper}{t n E s b s' b':Nat}{z z':Value}{zc zc':Array Value}{parts:List (Nat×Operand)}{vs:List Value}{cs:Array Value}{S:ah→Prop}(ho:o.op= .build t parts.toArray)[TD x.P t (.array n E)][TI x.P t s b z zc][TI x.P E s' b' z' zc'](hv:evs ρ (parts.map (·.2))=some vs)
  (hf:Instr.fill (fun i:Nat=>some (i*s',s')) zc ((parts.map (·.1)).zip vs)=some cs):Yv x S ρ o (.agg cs):=fun e he F hF h' hE=>by
 obtain⟨j,_,_,_,_,hz⟩:=TI.out (inferInstance:TI x.P t s b z zc)
 have hp:parts.map (fun(p:Nat×Operand)=>(p.1,e p.2))=(parts.map (·.1)).zip vs:=by
  rw[←lN he hv,List.map_map]
  clear hf hv ho
  induction parts with
  | nil=>rfl
  | cons p r ih=>simp[ih]
 simp only[execOp,ho,Instr.build,List.map_toArray,bind_eq,au,bind_assoc,bind_pure,fG,aC,dH,hz]
 have hp':(parts.map fun x=>match x with | (i,y)=>(i,e y))=(parts.map (·.1)).zip vs:=hp
 simp only[hp',hf]
 exact⟨rfl,rfl⟩
end Go.aS

/- The iterator of plans; how many cones a plan puts in; the best so far. Conditions: none; over the given program. -/
namespace Go.aS
set_option maxRecDepth 100000
set_option maxHeartbeats 4000000
theorem aIi(main:Side)(h:Hp)(bs m:Nat):dV prog main aCK #[bI bs,B8 m,.bool false] h [] (fun v A=>∃b1 b2 b3,v= .func (.func aBM) #[] #[bI b1,bI b2,bI b3]∧A=[(b2,.cells #[.bool false] RS (0,0)),(b3,.cells #[B8 m] aDF (0,0)),(b1,.cells #[bI bs] asc (0,0))]):=by
 refine dV.aG aD9 rfl (by show 3≤8;decide) [(0,bI bs),(1,B8 m),(2,.bool false)] ⟨rfl,rfl,rfl,trivial⟩ ?_
 refine W.seq<|W.region rfl ?_
 refine Ops.box (fun uU=>?_)
 refine Ops.box (fun wC=>?_)
 refine Ops.box (fun mZ=>?_)
 refine agb rfl rfl rfl<|pq<|W.seq<|W.region rfl ?_
 refine agW (y7 rfl rfl rfl) rfl ?_
 refine agb rfl rfl rfl<|pq<|W.ret ?_
 exact mg ⟨_,_,_,rfl,rfl⟩
theorem aHF(main:Side)(h:Hp)(sh:List Shf)(cn:List Cne)(hs:List Int)(no ri to:Int)(vs vc vh:Value)(l:List Value)(mp bs b1 b2 b3:Nat)(Eg Es E1 E2 E3:TypeId)(zg zs z1 z2 z3:Nat×Nat)(hok:aCr sh cn hs)(h1:Sl h Shf.row vs sh)(h2:Sl h Cne.row vc cn)(h3:Sl h fH vh hs)(hg:h 0=some (.cells #[Ur qM] Eg zg))
  (hbs:h bs=some (.cells (stC vs vc hs.length no ri to vh l mp) Es zs)) (hst:∀j c,cn[j]? =some c→Sl h Sd.row (l.getD j aB9) (aB8 sh c hs)) (hb1:h b1=some (.cells #[bI bs] E1 z1)) (hb2:h b2=some (.cells #[.bool false] E2 z2)) (hb3:h b3=some (.cells #[B8 (aEO cn.length)] E3 z3)):
  Me prog main (.func (.func aBM) #[] #[bI b1,bI b2,bI b3]) aJQ (aCA sh cn hs) h:=by
 intro h' hE0 yv hy1 J K hy A hJ
 refine gZ.zh (f:=aBM) (fi:=[]) (args:=[_]) (ca:=[bI b1,bI b2,bI b3]) ?_
 refine dV.aG aDS rfl (by show 4≤11;decide) [(0,yv),(1,bI b1),(2,bI b2),(3,bI b3)] ⟨rfl,rfl,rfl,rfl,trivial⟩ ?_
 refine W.seq<|W.region rfl ?_
 refine Ops.box (fun wC=>?_) rfl rfl (OO hy1)
 refine pq<|W.seq<|W.region rfl ?_
 refine Ops.new (fun mZ=>?_)
 refine pq<|W.seq<|W.region rfl ?_
 refine agW (y7 rfl rfl rfl) rfl ?_
 refine Ops.yG ?_
 refine pq<|W.region rfl ?_
 refine agX rfl ?_
 refine agW (aAx (cs:=pC aFy) rfl rfl (by kernel_rfl)) rfl ?_
 refine agW (aAx (cs:=qC aBS) rfl rfl (by kernel_rfl)) rfl ?_
 refine cgv (.tail (.tail .all)) (fun h9 e9 hL=>gZ.zh (fi:=[]) (args:=[_,_,_]) (ca:=[_,_,_,_,_]) (aBi _ sh cn hs no ri to vs vc vh yv l mp bs b1 wC b2 b3 mZ _ _ _ _ _ _ _ _ _ _ _ _ _ _ hok hy1 (aCA sh cn hs) J K cn 0 aFy aBS h9 0 [] A rfl (Nat.zero_le _) rfl .zero (h1.ext (hE0.trans e9)) (h2.ext (hE0.trans e9)) (h3.ext (hE0.trans e9)) ((hE0.trans e9).1 _ _ hg) ((hE0.trans e9).1 _ _ hbs) (fun j c hj=>(hst j c hj).ext (hE0.trans e9)) ((hE0.trans e9).1 _ _ hb1) (hL _ _ (.tail _ (.head _))) ((hE0.trans e9).1 _ _ hb2) ((hE0.trans e9).1 _ _ hb3) (hL _ _ (.head _)) (hy.ext e9) (by simp[aCA]) hJ)) (fun r B1 hr=>?_)
 refine Ops.nil ?_
 refine mg (vs:=[]) ?_
 rcases hr with⟨_,B,hB,hsb⟩ | ⟨_,k,x,B,hx,hB,hsb⟩
 ·rw[Nat.zero_add]at hB
  exact .inl ⟨B,hB,.skip rfl (.skip rfl hsb)⟩
 ·exact .inr ⟨k,x,_,[],B,hx,⟨rfl,rfl⟩,hB,by rw[List.append_nil];exact .skip rfl (.skip rfl hsb)⟩
end Go.aS

/- Slices of slices; makeSlice. Conditions: none; over any program. -/
namespace Go.aS
structure Sv where
  a:Option Addr
  n:Nat
  cap:Nat
abbrev Sv.val(s:Sv):Value:=.slice s.a s.n s.cap
def ags(s:Sv):List Value:=[.slice s.a s.n s.cap]
instance:Rw ags 1:=⟨fun _=>rfl,fun _=>rfl⟩

section
variable{α:Type}{row:α→List Value}{w:Nat}[rw':Rw row w]{E:TypeId}
inductive UG(E:TypeId)(row:α→List Value)[Rw row w]:List Sv→List (List α)→ah→Prop
  | nil:UG E row [] [] []
  | cons {s:Sv} {l:List α} {A B:ah} {vs:List Sv} {ls:List (List α)}:Os E row s.val l A→UG E row vs ls B→UG E row (s::vs) (l::ls) (A++B)
theorem UG.len{vs:List Sv}{ls:List (List α)}{A:ah}(h:UG E row vs ls A):vs.length=ls.length:=by
  induction h with
  | nil=>rfl
  | cons _ _ ih=>simp[ih]
theorem UG.shut{vs:List Sv}{ls:List (List α)}{A:ah}(h:UG E row vs ls A):Shut A:=by
  induction h with
  | nil=>exact .nil
  | cons h _ ih=>exact h.shut.app ih
theorem UG.sl{vs:List Sv}{ls:List (List α)}{A:ah}{h':Hp}(h:UG E row vs ls A)(hL:∀b o,(b,o)∈A→h' b=some o):∀{k:Nat} {s:Sv} {l:List α},vs[k]? =some s→ls[k]? =some l→Sl h' row s.val l:=by
  induction h with
  | nil=>intro k s l hs;simp at hs
  | cons h1 _ ih=>
    intro k s l hs hl
    rcases k with _ | k
    · simp at hs hl;subst hs hl
      exact h1.sl fun b o hb=>hL b o (List.mem_append_left _ hb)
    · simp at hs hl
      exact ih (fun b o hb=>hL b o (List.mem_append_right _ hb)) hs hl
end
/-! makeSlice -/
section
variable{x:Cx}{ρ:Env}{F:ah}{o:Oper}{R:Value→ah→Prop}
end
end Go.aS

/- How many cones a plan puts in; the best so far; a plan as stands. Conditions: none; over the given program. -/
namespace Go.aS
set_option maxRecDepth 100000
set_option maxHeartbeats 4000000
theorem aHG(main:Side)(h:Hp)(l:List Sd)(vl:Value)(hs:Sl h Sd.row vl l)(hn:l.length≤1000):dV prog main aCD #[vl] h [] (fun v A=>∃S,Os aBC Sd.row v l S∧Sb S A):=by
 obtain⟨a,cap,rfl⟩:=hs.dA
 refine dV.aG aD4 rfl (by show 1≤8;decide) [(0,.slice a l.length cap)] ⟨rfl,trivial⟩ ?_
 refine W.seq<|W.region rfl<|agb rfl rfl rfl<|pq<|W.seq<|W.seq<|W.region rfl<|qm rfl rfl rfl ?_
 refine agW (aae rfl rfl) rfl ?_
 refine pq ?_
 refine W.cond rfl (fun c4=>?_) (fun c4=>?_)
 ·refine W.seq<|W.region rfl<|agb rfl rfl rfl<|pq<|W.ret<|aY ?_
  have:l=[]:=by
   cases a with
   | some a=>cases c4
   | none=>
    rcases hss:l with _ | ⟨x,r⟩
    ·rfl
    ·obtain⟨b,off,c,E,fz,e,_⟩:=hs.at (i:=0) (p:=x) (by rw[hss];rfl)
     cases e
  subst this
  exact mg (vs:=[.slice none 0 0]) ⟨[],.nil .nil,.refl⟩
 ·refine W.skip<|aA<|W.seq<|W.region rfl ?_
  refine Ops.aeO (fun mZ=>?_) rfl
  refine qm rfl rfl rfl ?_
  have hO:Os aBC Sd.row (.slice (some ⟨mZ,0,none⟩) 0 0) ([]:List Sd) [(mZ,.cells #[] aBC (0,0))]:=.inr ⟨mZ, #[],0,[],rfl,rfl,rfl,Nat.le_refl _,Part.all [],.nil⟩
  refine oe rfl wn rfl rfl (iW (row:=Sd.row) (l:=[]) (l':=l) rfl rfl rfl hO .all (fun h2 hE hl=>hs.ext hE) (by simp;omega) (by decide) rfl (fun v' S' hS'=>?_))
  rw[List.nil_append]at hS'
  refine agb rfl rfl rfl<|pq<|W.ret ?_
  exact mg (vs:=[v']) ⟨S',hS',.refl⟩
theorem aJn{p:List Sd}(hp:p.length=3){n:Nat}(hn:n≤3):Part (pC p) 0 (flat Sd.row (p.take n)):=by
 refine⟨[],flat Sd.row (p.drop n),?_,rfl⟩
 rw[List.nil_append,←zk,List.take_append_drop]
 rfl
theorem aIT(main:Side)(h:Hp)(cn:List Cne)(vs vc vh:Value)(bs n:Nat)(cs:Array Value)(Es:TypeId)(zs:Nat×Nat)(hS:StF cs vs vc vh n)(hbs:h bs=some (.cells cs Es zs))(h2:Sl h Cne.row vc cn)(hc3:cn.length≤3)(p:List Sd)(hp:p.length=3):dV prog main aDb #[bI bs,spV p] h [] (fun v A=>∃S,Os aBC Sd.row v (p.take cn.length) S∧Sb S A):=by
 have hc1:=hS.c1
 obtain⟨a2,cap2,rfl⟩:=h2.dA
 have hsz:=aC9 hp
 refine dV.aG aEr rfl (by show 2≤13;decide) [(0,bI bs),(1,spV p)] ⟨rfl,rfl,trivial⟩ ?_
 refine W.seq<|W.region rfl ?_
 refine Ops.box (cs:=pC p) (fun uU=>?_)
 refine agb rfl rfl rfl<|pq<|W.seq<|W.region rfl<|qm rfl rfl rfl ?_
 refine ag4 rfl ?_
 refine agY rfl ?_
 refine agY rfl ?_
 refine agX rfl ?_
 refine agW (dM rfl rfl) rfl ?_
 refine agW (NJ rfl rfl rfl) rfl ?_
 refine c0 (fun h' hE hL=>aHG _ h' (p.take cn.length) (.slice (some ⟨uU,0,none⟩) cn.length 3) (Sl.mk (hL uU _ (.head _)) (by rw[List.length_take];omega) (aJn hp hc3)) (by rw[List.length_take];omega)) (fun v A' hv=>?_)
 obtain⟨S,hS2,hsb⟩:=hv
 refine agb rfl rfl rfl<|pq<|W.ret ?_
 exact mg (vs:=[v]) ⟨S,hS2,hsb.right (.cons rfl .nil)⟩
def aCt(s:List Sd×Int×Bool):Array Value:=(flat Sd.row s.1++[I s.2.1,.bool s.2.2]).toArray
theorem aHZ{p:List Sd}{n:Int}{b:Bool}(hp:p.length=3):(aCt (p,n,b)).size=8∧(aCt (p,n,b))[0+6]? =some (I n)∧(aCt (p,n,b))[0+7]? =some (.bool b)∧(aCt (p,n,b)).extract (0+0) (0+0+6)=pC p:=by
 obtain⟨x,y,z,rfl⟩:=three hp
 exact⟨rfl,rfl,rfl,rfl⟩
theorem aIj{p p':List Sd}{n n':Int}{b:Bool}(hp:p.length=3)(hp':p'.length=3):((jv (aCt (p,n,b)) (0+0) (pC p').toList).setIfInBounds (0+6) (I n')).setIfInBounds (0+7) (.bool true)=aCt (p',n',true):=by
 obtain⟨x,y,z,rfl⟩:=three hp
 obtain⟨x',y',z',rfl⟩:=three hp'
 rfl
theorem aIU{p p':List Sd}{n n':Int}{b:Bool}(hp:p.length=3)(hp':p'.length=3):0+6<(jv (aCt (p,n,b)) (0+0) (pC p').toList).size∧0+7<((jv (aCt (p,n,b)) (0+0) (pC p').toList).setIfInBounds (0+6) (I n')).size:=by
 obtain⟨x,y,z,rfl⟩:=three hp
 obtain⟨x',y',z',rfl⟩:=three hp'
 exact⟨by show 0+6<8;decide,by show 0+7<8;decide⟩
theorem aIV(main:Side)(h:Hp)(β n:Nat)(s:List Sd×Int×Bool)(p:List Sd)(E:TypeId)(hs:s.1.length=3)(hp:p.length=3):dV prog main aCp #[bI β,spV p,I (-(aCw n p:Int))] h [(β,.cells (aCt s) E (0,0))] (fun v A=>Sb [(β,.cells (aCt (takeB n s p)) E (0,0))] A):=by
 obtain⟨p0,n0,b0⟩:=s
 replace hs:p0.length=3:=hs
 obtain⟨hz,hz6,hz7,hz0⟩:=aHZ (n:=n0) (b:=b0) hs
 have hsz:=aC9 hp
 have hop:=aFM hp
 have hst:=aIj (n:=n0) (n':= -(aCw n p:Int)) (b:=b0) hs hp
 obtain⟨hy6,hy7⟩:=aIU (n:=n0) (n':= -(aCw n p:Int)) (b:=b0) hs hp
 refine dV.aG aDE rfl (by show 3≤30;decide) [(0,bI β),(1,spV p),(2,I (-(aCw n p:Int)))] ⟨rfl,rfl,rfl,trivial⟩ ?_
 refine W.seq<|W.region rfl ?_
 refine Ops.box (cs:=pC p) (fun wC=>?_)
 refine pq<|W.seq<|W.region rfl<|qm rfl rfl rfl ?_
 refine ag4 rfl ?_
 refine agY rfl ?_
 refine agX rfl ?_
 refine agW (xU rfl rfl) rfl ?_
 refine qm rfl rfl rfl ?_
 refine Ops.RV (fun aCu=>?_) (fun aCu=>?_)
 ·refine Ops.no ?_
  refine Ops.no ?_
  refine Ops.no ?_
  refine Ops.no ?_
  refine Ops.no ?_
  refine Ops.no ?_
  refine agW (dG rfl rfl rfl) rfl ?_
  refine pq ?_
  refine W.dW ?_
  refine W.region rfl<|qm rfl rfl rfl<|qm rfl rfl rfl<|qm rfl rfl rfl ?_
  first | refine ag2 rfl ?_ | refine agW (ady rfl rfl) rfl ?_
  refine qm rfl rfl rfl ?_
  refine ag4 rfl ?_
  refine agY rfl ?_
  first | refine Ops.jP ?_ | refine Ops.nY ?_
  refine ag4 rfl ?_
  refine agY rfl ?_
  refine Ops.yG ?_
  refine ag4 rfl ?_
  refine agY rfl ?_
  refine Ops.yG ?_
  refine Ops.nil ?_
  first
   | (
     have e:takeB n (p0,n0,b0) p=(p,-(aCw n p:Int),true):=by
      unfold takeB
      rw[if_pos (by first | exact .inl (adS aCu) | exact .inr c18)]
     rw[e,←hst]
     exact mg (vs:=[]) (.skip rfl .refl))
   | (
     have e:takeB n (p0,n0,b0) p=(p0,n0,b0):=by
      unfold takeB
      rw[if_neg (by
       rintro(h | h)
       ·have:=adT aCu
        rw[show b0=false from h]at this;cases this
       ·exact c18 h)]
     rw[e]
     exact mg (vs:=[]) (.skip rfl .refl))
 ·refine oq (
        aN rfl rfl) rfl (ak rfl rfl rfl) rfl rfl ?_
  refine oq (aN rfl rfl) rfl (ak rfl rfl rfl) rfl rfl ?_
  first | refine oq (bg rfl rfl) rfl (ak rfl rfl rfl) rfl rfl ?_ | refine oq (aT rfl rfl) rfl (ak rfl rfl rfl) rfl rfl ?_
  refine oq (ay rfl rfl) rfl (ak rfl rfl rfl) rfl rfl ?_
  refine oq (iQ rfl rfl) rfl (ak rfl rfl rfl) rfl rfl ?_
  refine oq (fO rfl rfl rfl) rfl (ak rfl rfl rfl) rfl rfl ?_
  refine agW (iH rfl rfl rfl) rfl ?_
  refine pq ?_
  refine W.bC rfl (fun c18=>?_) (fun c18=>?_)
  ·refine W.region rfl<|qm rfl rfl rfl<|qm rfl rfl rfl<|qm rfl rfl rfl ?_
   first | refine ag2 rfl ?_ | refine agW (ady rfl rfl) rfl ?_
   refine qm rfl rfl rfl ?_
   refine ag4 rfl ?_
   refine agY rfl ?_
   first | refine Ops.jP ?_ | refine Ops.nY ?_
   refine ag4 rfl ?_
   refine agY rfl ?_
   refine Ops.yG ?_
   refine ag4 rfl ?_
   refine agY rfl ?_
   refine Ops.yG ?_
   refine Ops.nil ?_
   first
    | (
      have e:takeB n (p0,n0,b0) p=(p,-(aCw n p:Int),true):=by
       unfold takeB
       rw[if_pos (by first | exact .inl (adS aCu) | exact .inr c18)]
      rw[e,←hst]
      exact mg (vs:=[]) (.skip rfl .refl))
    | (
      have e:takeB n (p0,n0,b0) p=(p0,n0,b0):=by
       unfold takeB
       rw[if_neg (by
        rintro(h | h)
        ·have:=adT aCu
         rw[show b0=false from h]at this;cases this
        ·exact c18 h)]
      rw[e]
      exact mg (vs:=[]) (.skip rfl .refl))
  ·refine W.skip ?_
   first
    | (
      have e:takeB n (p0,n0,b0) p=(p,-(aCw n p:Int),true):=by
       unfold takeB
       rw[if_pos (by first | exact .inl (adS aCu) | exact .inr c18)]
      rw[e,←hst]
      exact mg (vs:=[]) (.skip rfl .refl))
    | (
      have e:takeB n (p0,n0,b0) p=(p0,n0,b0):=by
       unfold takeB
       rw[if_neg (by
        rintro(h | h)
        ·have:=adT aCu
         rw[show b0=false from h]at this;cases this
        ·exact c18 h)]
      rw[e]
      exact mg (vs:=[]) (.skip rfl .refl))

instance:NS prog aBC:=⟨by kernel_rfl,by kernel_rfl⟩
theorem aGM:V7 prog aBC 2 2:=by
 refine V7.struct (ws:=[1,1]) (K:=1) ?_
 exact(Lay.cons (by decide) rfl EqAt.int (Lay.cons (by decide) rfl EqAt.int Lay.nil))
theorem aIk:V7 prog aBq 6 3:=V7.array (n:=3) (w:=2) (K:=2) aGM.at
instance:EV prog aBC 2:=⟨aGM.le (by decide)⟩
instance:EV prog aBq 6:=⟨aIk.le (by decide)⟩
theorem aIl:CkV prog aBC 2 2:=by
 refine CkV.struct (ws:=[1,1]) (K:=1) ?_
 exact(Qi.cons (by decide) rfl Sr.int (Qi.cons (by decide) rfl Sr.int Qi.nil))
theorem aIm:CkV prog aBq 6 3:=CkV.array (n:=3) (w:=2) (K:=2) aIl.at
instance:KV prog aBq 6:=⟨inferInstance,aIm.le (by decide),_,TD.out,.inr ⟨_,_,rfl⟩⟩
def keyS(p:List Sd):List Int:=p.flatMap fun a=>[a.sh,a.da]
theorem aH0(p:List Sd):spV p=aBt (keyS p):=by
 have e:flat Sd.row p=(keyS p).map nI:=by
  induction p with
  | nil=>rfl
  | cons b p ih=>rw[iV,ih];rfl
 rw[spV,pC,e];rfl
theorem aHl{p:List Sd}(h:p.length=3):(keyS p).length=6:=by
 obtain⟨a,b,c,rfl⟩:=three h;rfl
theorem aIW{p q:List Sd}(hp:p.length=3)(hq:q.length=3)(h:keyS p=keyS q):p=q:=by
 obtain⟨⟨a1,a2⟩,⟨b1,b2⟩,⟨c1,c2⟩,rfl⟩:=three hp
 obtain⟨⟨d1,d2⟩,⟨e1,e2⟩,⟨f1,f2⟩,rfl⟩:=three hq
 simp only[keyS,List.flatMap_cons,List.flatMap_nil,List.append_nil,List.cons_append,List.nil_append,List.cons.injEq,and_true]at h
 obtain⟨rfl,rfl,rfl,rfl,rfl,rfl⟩:=h
 rfl
def KX(n:Nat)(m:List (List Int×Value)):Prop:=∀e∈m,∃p:List Sd,p.length=3∧e=(keyS p,I (aCw n p))
theorem aHH{k:Nat}{p:List Sd}{a:Sd}(h:p[k]? =some a):aCw (k+1) p=aCw k p+(if 0≤a.sh then 1 else 0):=by
 unfold aCw
 rw[List.take_add_one,h]
 simp[List.countP_append,List.countP_cons]
theorem aGe{k:Nat}{p:List Sd}:aCw k p≤k:=by
 unfold aCw
 exact Nat.le_trans List.countP_le_length (by rw[List.length_take];omega)
theorem aKk{p:List Sd}{k:Nat}{a:Sd}(hp:p.length=3)(h:p[k]? =some a):(pC p).extract (0+k*2) (0+k*2+2)= #[I a.sh,I a.da]:=by
 obtain⟨x,y,z,rfl⟩:=three hp
 rcases k with _ | _ | _ | k
 ·cases h;rfl
 ·cases h;rfl
 ·cases h;rfl
 ·simp at h
theorem aJo{x:Cx}{ρ:Env}{F:ah}{o:Oper}{R:Value→ah→Prop}{t kt vt w s b:Nat}{z:Value}{zc:Array Value}{y k:Operand}{β:Nat}{m:List (List Int×Value)}(a:List Int){U:Obj→ah}(ho:o.op= .lookup t y k true)[TD x.P t (.map kt vt)][KV x.P kt w][TI x.P vt s b z zc](hy:ev ρ y=some (.map (some β)))(hk:ev ρ k=some (aBt a))(h1:a.length=w)(hw:∀b∈m,b.1.length=w)(hl:At β (ax6 m) F U)
  (H:∀u b,(b=true→(a,u)∈m)→(b=false→u=z∧a∉m.map (·.1))→R (.tuple #[u,.bool b]) F):Ef x ρ o F R:=
 aJj ho hy hk h1 hw hl (fun v hv=>H v true (fun _=>hv) (fun h=>by cases h)) (fun hn=>H z false (fun h=>by cases h) (fun _=>⟨rfl,hn⟩))
theorem aIn(main:Side)(h:Hp)(cn:List Cne)(hs:List Int)(no ri to:Int)(vs vc vh:Value)(l:List Value)(bs mp:Nat)(Es:TypeId)(zs:Nat×Nat)(hbs:h bs=some (.cells (stC vs vc hs.length no ri to vh l mp) Es zs))(h2:Sl h Cne.row vc cn)(hc3:cn.length≤3)(m:List (List Int×Value))(hm:KX cn.length m)(p:List Sd)(hp:p.length=3):
  dV prog main aCP #[bI bs,spV p] h [(mp,ax6 m)] (fun v A=>v=I (aCw cn.length p)∧∃m',KX cn.length m'∧Sb [(mp,ax6 m')] A):=by
 obtain⟨a2,cap2,rfl⟩:=h2.dA
 have hsz:=aC9 hp
 have hw:∀b∈m,b.1.length=6:=fun b hb=>by
  obtain⟨q,hq,rfl⟩:=hm b hb
  exact aHl hq
 have hkl:=aHl hp
 refine dV.aG aD_ rfl (by show 2≤45;decide) [(0,bI bs),(1,spV p)] ⟨rfl,rfl,trivial⟩ ?_
 refine W.seq<|W.region rfl ?_
 refine Ops.box (cs:=pC p) (fun uU=>?_)
 refine agb rfl rfl rfl<|pq<|W.seq ?_
 refine W.rE (n:=11) rfl ?_
 refine xq 0 (aN rfl rfl) rfl ?_
 first | refine xq 1 (bg rfl rfl) rfl ?_ | refine xq 1 (aT rfl rfl) rfl ?_
 refine xq 2 (ay rfl rfl) rfl ?_
 refine xq 3 (iQ rfl rfl (.inl hbs) rfl) rfl ?_
 first | refine xq 4 (Bf rfl rfl) rfl ?_ | refine xq 4 (zi rfl rfl) rfl ?_ | refine xq 4 (ady rfl rfl) rfl ?_
 refine ae (i:=5) rfl an rfl rfl (aJo (keyS p) rfl rfl (by rw[←aH0];rfl) hkl hw (.tail .head) (fun u b hy hn=>?_))
 refine⟨.inr Keeps.refl,?_⟩
 refine xq 6 (aN rfl rfl) rfl ?_
 refine xq 7 (bD rfl rfl rfl) rfl ?_
 refine xq 8 (bD rfl rfl rfl) rfl ?_
 refine xq 9 (jS rfl rfl) rfl ?_
 refine xq 10 (jS rfl rfl) rfl ?_
 refine az ?_
 refine aA<|W.seq<|W.seq<|W.region rfl<|qm rfl rfl rfl<|pq ?_
 refine W.cond rfl (fun c18=>?_) (fun c18=>?_)
 ·refine W.seq<|W.region rfl<|qm rfl rfl rfl<|agb rfl rfl rfl<|pq<|W.ret<|aY ?_
  obtain⟨q,hq,e⟩:=hm _ (hy c18)
  simp only[Prod.mk.injEq]at e
  obtain rfl:=aIW hp hq e.1
  exact mg (vs:=[u]) ⟨e.2,m,hm,.skip rfl .refl⟩
 ·obtain⟨rfl,hnk⟩:=hn c18
  refine W.skip<|aA<|W.seq<|W.seq<|W.region rfl<|qm rfl rfl rfl ?_
  refine ag4 rfl ?_
  refine agY rfl ?_
  refine agY rfl ?_
  refine agW (iQ rfl rfl (.inl hbs) rfl) rfl ?_
  refine agW (dM rfl rfl) rfl ?_
  refine agW (NJ rfl rfl rfl) rfl ?_
  refine agW (dM rfl rfl) rfl ?_
  refine qm rfl rfl rfl<|pq<|W.block ?_
  refine W.loop (σ:=Nat) (fun k=>k≤cn.length) (fun k=>[(28,I k),(27,I cn.length),(26,.slice (some ⟨uU,0,none⟩) cn.length 3),(0,bI bs),(3,bI uU),(5,I (aCw k p))]) (fun _=>[(uU,.cells (pC p) aBq (0,0)),(mp,ax6 m)]) (fun k=>cn.length-k) 0 (Nat.zero_le _) ⟨rfl,rfl,rfl,rfl,rfl,rfl,trivial⟩ .refl ?_
  rintro k hk
  refine W.seq<|W.region rfl ?_
  refine agW (fO rfl rfl rfl) rfl ?_
  refine pq<|W.seq ?_
  refine W.bC rfl (fun c29=>?_) (fun c29=>?_)
  ·have hkl:k<cn.length:=by omega
   obtain⟨a,hka,-⟩:=has (show k<p.length by omega)
   have hx':=aKk hp hka
   have hnx:=aHH hka
   have hcl:=aGe (k:=k) (p:=p)
   refine W.skip<|aA<|W.seq<|W.block<|W.seq<|W.region rfl ?_
   refine ag3 rfl ?_
   first | refine ag2 rfl ?_ | refine agW (ady rfl rfl) rfl ?_
   refine Ops.new (fun yD=>?_)
   first | refine Ops.jP ?_ | refine Ops.nY ?_
   refine pq<|W.seq<|W.region rfl ?_
   refine agY rfl ?_
   refine agX rfl ?_
   refine agW (IJ rfl rfl rfl) rfl ?_
   refine pq ?_
   refine W.bC rfl (fun c34=>?_) (fun c34=>?_)
   ·refine W.region rfl<|qm rfl rfl rfl ?_
    refine ag1 rfl ?_
    refine agb rfl rfl rfl<|Ops.nil<|dI<|aA<|W.region rfl ?_
    refine ag1 rfl ?_
    refine qm rfl rfl rfl<|pq ?_
    exact⟨rfl,k+1,by omega,by omega,⟨rfl,rfl,rfl,rfl,rfl,lk rfl (show I _=I _ by rw[hnx,if_pos (by omega)];rfl),trivial⟩,.skip rfl .refl⟩
   ·refine W.skip<|dI<|aA<|W.region rfl ?_
    refine ag1 rfl ?_
    refine qm rfl rfl rfl<|pq ?_
    exact⟨rfl,k+1,by omega,by omega,⟨rfl,rfl,rfl,rfl,rfl,lk rfl (show I _=I _ by rw[hnx,if_neg (by omega)];rfl),trivial⟩,.skip rfl .refl⟩
  ·obtain rfl:k=cn.length:=by omega
   refine W.exit<|bP<|bP<|gG<|aA<|W.seq ?_
   refine W.rE (n:=7) rfl ?_
   refine xq 0 (aN rfl rfl) rfl ?_
   first | refine xq 1 (bg rfl rfl) rfl ?_ | refine xq 1 (aT rfl rfl) rfl ?_
   refine xq 2 (ay rfl rfl) rfl ?_
   refine xq 3 (iQ rfl rfl (.inl hbs) rfl) rfl ?_
   first | refine xq 4 (Bf rfl rfl) rfl ?_ | refine xq 4 (zi rfl rfl) rfl ?_ | refine xq 4 (ady rfl rfl) rfl ?_
   refine xq 5 (aN rfl rfl) rfl ?_
   refine ae (i:=6) rfl an rfl rfl (aAS (a:=keyS p) rfl rfl (by rw[←aH0];rfl) rfl hkl hw hnk (.tail .head) ?_)
   refine⟨.inl (by kernel_rfl),?_⟩
   refine az ?_
   refine aA<|W.seq<|W.region rfl<|qm rfl rfl rfl<|agb rfl rfl rfl<|pq<|W.ret ?_
   refine mg (vs:=[I (aCw cn.length p)]) ⟨rfl,_,?_,.skip rfl .refl⟩
   intro e he
   rcases List.mem_append.1 he with he | he
   ·exact hm e he
   ·obtain rfl:e=_:=by simpa using he
    exact⟨p,hp,rfl⟩
end Go.aS
