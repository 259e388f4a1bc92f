/- A valid boil has no error. Conditions: none; over the given program. (And 14 texts more.) -/
import Derived.Test.YtahkljmgmgacjabGreatDoorR08
import Derived.Test.YtahkljmgmgacjabGreatDoorR07
import Derived.Test.YtahkljmgmgacjabGreatDoorR04
import Derived.Test.YtahkljmgmgacjabGreatDoorR06
set_option linter.unusedVariables false
set_option linter.unusedSimpArgs false
set_option linter.unusedSectionVars false

/- A valid boil has no error. Conditions: none; over the given program. -/
namespace Go.aS
set_option maxRecDepth 100000
set_option maxHeartbeats 4000000
abbrev bI(b:Nat):Value:=.pointer (some ⟨b,0,none⟩)
abbrev Wv(vs vr vm vh vp:Value):Array Value:= #[vs,vr,vm,vh,vp]
abbrev ax8(vs vr vm vh vp:Value):Value:=.agg (Wv vs vr vm vh vp)
structure aBp(h:Hp)(vs vr vm vh vp:Value)(B:Boi):Prop where
 sm:Sl h Spn.row vs B.ss
 rm:Sl h fH vr B.rs
 mm:Sl h fH vm [B.ms.1,B.ms.2.1,B.ms.2.2]
 hm:Sl h Spn.row vh B.hs
 pm:Sl h Prf.row vp B.ps
theorem aBp.ext{h h':Hp}{vs vr vm vh vp:Value}{B:Boi}(e:Ext h h')(H:aBp h vs vr vm vh vp B):aBp h' vs vr vm vh vp B:=
 ⟨H.sm.ext e,H.rm.ext e,H.mm.ext e,H.hm.ext e,H.pm.ext e⟩

theorem aFc(main:Side)(h:Hp)(a1 a4:Option Addr)(n1 n4 c1 c4:Nat)(vr vm vp:Value)(p:Prf)(h1:0≤p.Jq∧p.Jq<n1)(h2:0≤p.tick∧p.tick≤n4)(h3:0≤p.th∧p.th≤3)(hn:n1≤1000):Pu prog main azB #[ax8 (.slice a1 n1 c1) vr vm (.slice a4 n4 c4) vp,p.val] h (I 0):=by
 refine dV.aG aBM rfl (by show 2≤28;decide) [(0,ax8 (.slice a1 n1 c1) vr vm (.slice a4 n4 c4) vp),(1,p.val)] ⟨rfl,rfl,trivial⟩ ?_
 refine W.seq<|W.region rfl ?_
 refine Ops.box (fun yR=>?_)
 refine Ops.box (fun uU=>?_)
 refine agb rfl rfl rfl<|pq<|W.seq<|W.block<|W.seq<|W.region rfl ?_
 refine agY rfl ?_
 refine agX rfl ?_
 refine agY rfl ?_
 refine agX rfl ?_
 refine agW (dM rfl rfl) rfl ?_
 refine ag5 rfl ?_
 refine cp (fun h' hE hL=>ayu _ h' _ _ _) ?_
 refine agW (xU rfl rfl) rfl ?_
 refine qm rfl rfl rfl ?_
 refine Ops.RV (fun axD=>?_) (fun axD=>?_)
 ·refine Ops.no ?_
  refine Ops.no ?_
  refine Ops.no ?_
  refine Ops.no ?_
  refine Ops.no ?_
  refine Ops.no ?_
  refine Ops.no ?_
  refine agW (dG rfl rfl rfl) rfl ?_
  refine agb rfl rfl rfl<|pq ?_
  refine W.dW ?_
  refine W.seq<|W.region rfl<|agb rfl rfl rfl<|pq<|W.ret<|cZ<|aY ?_
  exfalso
  simp only[Bool.not_eq_true',decide_eq_false_iff_not]at*
  omega
 ·refine oq (ay rfl rfl) rfl (ak rfl rfl rfl) rfl rfl ?_
  refine oq (iQ rfl rfl) rfl (ak rfl rfl rfl) rfl rfl ?_
  refine oq (ay rfl rfl) rfl (ak rfl rfl rfl) rfl rfl ?_
  refine oq (iQ rfl rfl) rfl (ak rfl rfl rfl) rfl rfl ?_
  refine oq (dM rfl rfl) rfl (ak rfl rfl rfl) rfl rfl ?_
  refine cp (fun h' hE hL=>ayu _ h' _ _ _) ?_
  refine oq (xU rfl rfl) rfl (ak rfl rfl rfl) rfl rfl ?_
  refine agW (iH rfl rfl rfl) rfl ?_
  refine agb rfl rfl rfl<|pq ?_
  refine W.cond rfl (fun c5=>?_) (fun c5=>?_)
  ·refine W.seq<|W.region rfl<|agb rfl rfl rfl<|pq<|W.ret<|cZ<|aY ?_
   exfalso
   simp only[Bool.not_eq_true',decide_eq_false_iff_not]at*
   omega
  ·refine W.seq<|W.region rfl ?_
   refine agY rfl ?_
   refine agX rfl ?_
   refine cp (fun h' hE hL=>ayu _ h' _ _ _) ?_
   refine agW (xU rfl rfl) rfl ?_
   refine agb rfl rfl rfl<|pq ?_
   refine W.cond rfl (fun c23=>?_) (fun c23=>?_)
   ·refine W.seq<|W.region rfl<|agb rfl rfl rfl<|pq<|W.ret<|cZ<|aY ?_
    exfalso
    simp only[Bool.not_eq_true',decide_eq_false_iff_not]at*
    omega
   ·refine W.skip<|dI<|aA<|W.seq<|W.region rfl<|agb rfl rfl rfl<|pq<|W.ret ?_
    exact uZ rfl

theorem aHT(main:Side)(h:Hp)(vs vr vm vh vp:Value)(B:Boi)(ok:BOK B)(H:aBp h vs vr vm vh vp B):Pu prog main aBH #[ax8 vs vr vm vh vp] h (I 0):=by
 obtain⟨a1,cap1,rfl⟩:=H.sm.dA
 obtain⟨a2,cap2,rfl⟩:=H.rm.dA
 obtain⟨a3,cap3,rfl⟩:=H.mm.dA
 obtain⟨a4,cap4,rfl⟩:=H.hm.dA
 obtain⟨a5,cap5,rfl⟩:=H.pm.dA
 have hs1:=ok.s1
 have hs2:=ok.s2
 have hh1:=ok.h1
 have hh2:=ok.h2
 have hr1:=ok.r1
 have hp2:=ok.p2
 refine dV.aG aDY rfl (by show 1≤65;decide) [(0,ax8 _ _ _ _ _)] ⟨rfl,trivial⟩ ?_
 refine W.seq<|W.region rfl ?_
 refine Ops.box (fun β1=>?_)
 refine agb rfl rfl rfl<|pq<|W.seq<|W.seq<|W.region rfl ?_
 refine agY rfl ?_
 refine agX rfl ?_
 refine cp (fun h' hE hL=>aCD _ h' B.ss _ 3 40 (H.sm.ext hE) hs1 (by omega) (by omega) ok.sp) ?_
 refine agb rfl rfl rfl<|pq<|W.seq<|W.region rfl<|qm rfl rfl rfl ?_
 refine agW (nG rfl rfl rfl) rfl ?_
 refine pq ?_
 refine W.bC rfl (fun c15=>?_) (fun c15=>?_)
 ·refine W.seq<|W.region rfl<|qm rfl rfl rfl<|agb rfl rfl rfl<|pq<|W.ret<|aY ?_
  exact absurd rfl ‹_›
 ·refine W.skip<|aA<|W.seq<|W.seq<|W.region rfl ?_
  refine agY rfl ?_
  refine agX rfl ?_
  refine agW (dM rfl rfl) rfl ?_
  refine agY rfl ?_
  refine agX rfl ?_
  refine agW (dM rfl rfl) rfl ?_
  refine agW (nG rfl rfl rfl) rfl ?_
  refine pq ?_
  refine W.bC rfl (fun c23=>?_) (fun c23=>?_)
  ·refine W.seq<|W.region rfl<|agb rfl rfl rfl<|pq<|W.ret<|aY ?_
   exfalso
   omega
  ·refine W.skip<|aA<|W.seq<|W.seq<|W.region rfl ?_
   refine agY rfl ?_
   refine agX rfl ?_
   refine agW (dM rfl rfl) rfl ?_
   refine qm rfl rfl rfl<|pq<|W.block ?_
   refine W.loop (σ:=Nat) (fun k=>k≤B.rs.length) (fun k=>[(27,I k),(26,I B.rs.length),(25,.slice a2 B.rs.length cap2),(1,bI β1)]) (fun _=>[(β1,.cells (Wv (.slice a1 B.ss.length cap1) (.slice a2 B.rs.length cap2) (.slice a3 3 cap3) (.slice a4 B.hs.length cap4) (.slice a5 B.ps.length cap5)) MP (0,0))]) (fun k=>B.rs.length-k) 0 (Nat.zero_le _) ⟨rfl,rfl,rfl,rfl,trivial⟩ .refl ?_
   rintro k hk
   refine W.seq<|W.region rfl ?_
   refine agW (fO rfl rfl rfl) rfl ?_
   refine pq<|W.seq ?_
   refine W.bC rfl (fun c28=>?_) (fun c28=>?_)
   ·obtain⟨p,hp,hdr⟩:=has (show k<B.rs.length by omega)
    have hps:=ok.rp p (List.mem_of_getElem? hp)
    obtain⟨b,off,c,E,fz,rfl,hb,hx,hy,hz⟩:=H.rm.at hp
    have hx':c[off+k*1+0]? =some (I p):=hz 0 (by decide)
    clear hx hz
    refine W.skip<|aA<|W.seq<|W.block<|W.seq<|W.region rfl ?_
    refine ag3 rfl ?_
    refine agX rfl ?_
    refine agb rfl rfl rfl<|pq<|W.seq<|W.region rfl<|qm rfl rfl rfl ?_
    refine cp (fun h' hE hL=>ayu _ h' _ _ _) ?_
    refine agW (xU rfl rfl) rfl ?_
    refine pq ?_
    refine W.cond rfl (fun c33=>?_) (fun c33=>?_)
    ·refine W.seq<|W.region rfl<|agb rfl rfl rfl<|pq<|W.ret<|cZ<|aY<|aY<|cZ ?_
     refine aY ?_
     exfalso
     simp only[Bool.not_eq_true',decide_eq_false_iff_not]at*
     omega
    ·refine W.skip<|dI<|aA<|W.region rfl ?_
     refine ag1 rfl ?_
     refine qm rfl rfl rfl<|pq ?_
     exact⟨rfl,k+1,by omega,by omega,⟨rfl,rfl,rfl,rfl,trivial⟩,TW⟩
   ·skip
    refine W.exit<|bP<|bP<|gG<|aA<|W.seq<|W.seq<|W.region rfl ?_
    refine agY rfl ?_
    refine agX rfl ?_
    refine cp (fun h' hE hL=>aFb _ h' B.ms.1 B.ms.2.1 B.ms.2.2 _ (H.mm.ext hE) ok.mp) ?_
    refine agb rfl rfl rfl<|pq<|W.seq<|W.region rfl<|qm rfl rfl rfl ?_
    refine agW (nG rfl rfl rfl) rfl ?_
    refine pq ?_
    refine W.bC rfl (fun Ic=>?_) (fun Ic=>?_)
    ·refine W.seq<|W.region rfl<|qm rfl rfl rfl<|agb rfl rfl rfl<|pq<|W.ret<|aY ?_
     exact absurd rfl ‹_›
    ·refine W.skip<|aA<|W.seq<|W.seq<|W.region rfl ?_
     refine agY rfl ?_
     refine agX rfl ?_
     refine cp (fun h' hE hL=>aCD _ h' B.hs _ 5 4 (H.hm.ext hE) hh1 (by omega) (by omega) ok.hp) ?_
     refine agb rfl rfl rfl<|pq<|W.seq<|W.region rfl<|qm rfl rfl rfl ?_
     refine agW (nG rfl rfl rfl) rfl ?_
     refine pq ?_
     refine W.bC rfl (fun c45=>?_) (fun c45=>?_)
     ·refine W.seq<|W.region rfl<|qm rfl rfl rfl<|agb rfl rfl rfl<|pq<|W.ret<|aY ?_
      exact absurd rfl ‹_›
     ·refine W.skip<|aA<|W.seq<|W.seq<|W.region rfl ?_
      refine agY rfl ?_
      refine agX rfl ?_
      refine agW (dM rfl rfl) rfl ?_
      refine agW (rC rfl rfl rfl) rfl ?_
      refine pq ?_
      refine W.bC rfl (fun c50=>?_) (fun c50=>?_)
      ·refine W.seq<|W.region rfl<|agb rfl rfl rfl<|pq<|W.ret<|aY ?_
       exfalso
       omega
      ·refine W.skip<|aA<|W.seq<|W.seq<|W.region rfl ?_
       refine agY rfl ?_
       refine agX rfl ?_
       refine agW (dM rfl rfl) rfl ?_
       refine qm rfl rfl rfl<|pq<|W.block ?_
       refine W.loop (σ:=Nat) (fun k=>k≤B.ps.length) (fun k=>[(54,I k),(53,I B.ps.length),(52,.slice a5 B.ps.length cap5),(1,bI β1)]) (fun _=>[(β1,.cells (Wv (.slice a1 B.ss.length cap1) (.slice a2 B.rs.length cap2) (.slice a3 3 cap3) (.slice a4 B.hs.length cap4) (.slice a5 B.ps.length cap5)) MP (0,0))]) (fun k=>B.ps.length-k) 0 (Nat.zero_le _) ⟨rfl,rfl,rfl,rfl,trivial⟩ .refl ?_
       rintro k hk
       refine W.seq<|W.region rfl ?_
       refine agW (fO rfl rfl rfl) rfl ?_
       refine pq<|W.seq ?_
       refine W.bC rfl (fun c55=>?_) (fun c55=>?_)
       ·obtain⟨p,hp,hdr⟩:=has (show k<B.ps.length by omega)
        have hpp:=ok.pp p (List.mem_of_getElem? hp)
        obtain⟨b,off,c,E,fz,rfl,hb,hx,hy,hz⟩:=H.pm.at hp
        have hx':c.extract (off+k*3) (off+k*3+3)= #[I p.Jq,I p.tick,I p.th]:=hx
        clear hx hz
        refine W.skip<|aA<|W.seq<|W.block<|W.seq<|W.region rfl ?_
        refine ag3 rfl ?_
        first | refine ag2 rfl ?_ | refine agW (ady rfl rfl) rfl ?_
        refine Ops.new (fun Uw=>?_)
        first | refine Ops.jP ?_ | refine Ops.nY ?_
        refine pq<|W.seq<|W.region rfl ?_
        first | refine ag2 rfl ?_ | refine agW (ady rfl rfl) rfl ?_
        first | refine ag2 rfl ?_ | refine agW (ady rfl rfl) rfl ?_
        refine cp (fun h' hE hL=>aFc _ h' _ _ _ _ _ _ _ _ _ p hpp.1 hpp.2.1 hpp.2.2 (by omega)) ?_
        refine agb rfl rfl rfl<|pq<|W.seq<|W.region rfl<|qm rfl rfl rfl ?_
        refine agW (nG rfl rfl rfl) rfl ?_
        refine pq ?_
        refine W.bC rfl (fun c62=>?_) (fun c62=>?_)
        ·refine W.seq<|W.region rfl<|qm rfl rfl rfl<|agb rfl rfl rfl<|pq<|W.ret<|cZ<|aY<|aY ?_
         refine cZ<|aY ?_
         exact absurd rfl ‹_›
        ·refine W.skip<|dI<|aA<|W.region rfl ?_
         refine ag1 rfl ?_
         refine qm rfl rfl rfl<|pq ?_
         exact⟨rfl,k+1,by omega,by omega,⟨rfl,rfl,rfl,rfl,trivial⟩,TW⟩
       ·skip
        refine W.exit<|bP<|bP<|gG<|aA<|W.seq<|W.region rfl<|agb rfl rfl rfl<|pq ?_
        refine W.ret ?_
        exact uZ rfl
end Go.aS

/- Maps from arrays of numbers to anything: keys that are new are put; a loop over all, in any order. Conditions: none; over any program. -/
namespace Go.aS
def Y1(k:List Int):Value:=.agg (k.map nI).toArray
def azv(m:List (List Int×Value)):List MapEntry:=m.zipIdx.map fun p=>{key:=Y1 p.1.1,val:=p.1.2,born:=p.2}
abbrev axd(m:List (List Int×Value)):Obj:=.map (azv m).toArray m.length
theorem aIC{m:List (List Int×Value)}:(azv m).length=m.length:=by simp[azv]
theorem aIr{m:List (List Int×Value)}{k:List Int}{v:Value}:azv (m++[(k,v)])=azv m++[{key:=Y1 k,val:=v,born:=m.length}]:=by
 simp[azv,List.zipIdx_append]
theorem aF9{m:List (List Int×Value)}{e:MapEntry}(h:e∈azv m):∃p,m[e.born]? =some p∧e.key=Y1 p.1∧e.val=p.2:=by
 obtain⟨⟨p,i⟩,h1,rfl⟩:=List.mem_map.1 h
 have:=List.mem_zipIdx_iff_getElem?.1 h1
 exact⟨p,this,rfl,rfl⟩
theorem aGN{m:List (List Int×Value)}{i:Nat}{p:List Int×Value}(h:m[i]? =some p):{key:=Y1 p.1,val:=p.2,born:=i:MapEntry}∈azv m:=
 List.mem_map.2 ⟨(p,i),List.mem_zipIdx_iff_getElem?.2 h,rfl⟩
section
variable{P:Program}{h:Hp}{F:eG}{β:Type}{Q:β→eG→Prop}{t w:Nat}
theorem aDR[k:KV P t w]{f:Option (Nat×Value)→Sem β}{a:List Int}(h1:a.length=w):∀{m:List (List Int×Value)} {l:List MapEntry} {i:Nat},(∀b∈m,b.1.length=w)→l.map (·.key)=m.map (fun p=>Y1 p.1)→a∉m.map (·.1)→
  tr P h ((Instr.findAsking t (Y1 a) l i).bind f) F Q=tr P h (f none) F Q
 | [],l,i,hw,hm,ha=>by
  have:l=[]:=by simpa using hm
  subst this
  simp only[Instr.findAsking,gq,bind_pure]
 | b::m,[],i,hw,hm,ha=>by cases hm
 | b::m,e::l,i,hw,hm,ha=>by
  simp only[List.map_cons,List.cons.injEq]at hm
  obtain⟨hk,hm⟩:=hm
  have:=k.eq
  have hab:a≠b.1:=fun h=>ha (by rw[h];simp)
  have hk':e.key= .agg (b.1.map nI).toArray:=hk
  simp only[Instr.findAsking,bind_eq,gq,bind_assoc,hk',Y1,X7 h1 (hw b (List.mem_cons_self ..)),hab,decide_false,Bool.false_eq_true,if_false]
  exact aDR h1 (fun c hc=>hw c (List.mem_cons_of_mem _ hc)) hm fun h=>ha (by simp[h])
theorem aGO[k:KV P t w]{f:Option (Nat×Value)→Sem β}{a:List Int}(h1:a.length=w){m:List (List Int×Value)}{l:List MapEntry}(hw:∀b∈m,b.1.length=w)(hm:l.map (·.key)=m.map (fun p=>Y1 p.1))(ha:a∉m.map (·.1)):
  tr P h ((Instr.findKey t (Y1 a) l).bind f) F Q=tr P h (f none) F Q:=by
 obtain⟨d,hd,hda⟩:=k.ag
 have:TD P t d:=⟨hd⟩
 simp only[Instr.findKey,bind_eq,gq,bind_assoc,aC]
 cases l with
 | nil=>simp only[Instr.findNow,bind_pure]
 | cons e l=>
  have hn:Instr.findNow d (Y1 a) (e::l) 0=none:=by
   have:Instr.sameNow d (Y1 a) e.key=none:=by
    rcases hda with⟨fs,rfl⟩ | ⟨n,el,rfl⟩ <;>rfl
   simp only[Instr.findNow,this]
  simp only[hn]
  exact aDR h1 hw hm ha
end
section rules
variable{x:Cx}{ρ:Env}{F:eG}{S:eG→Prop}{o:Oper}{R:Value→eG→Prop}
theorem aIz{t kt vt w:Nat}{y k v:Operand}{β:Nat}{m:List (List Int×Value)}{a:List Int}{u:Value}{U:Obj→eG}(ho:o.op= .mapUpdate t y k v)[TD x.P t (.map kt vt)][KV x.P kt w](hy:ev ρ y=some (.map (some β)))(hk:ev ρ k=some (Y1 a))(hv:ev ρ v=some u)(h1:a.length=w)(hw:∀b∈m,b.1.length=w)(ha:a∉m.map (·.1))(hl:At β (axd m) F U)
  (H:R undef (U (axd (m++[(a,u)])))):Ef x ρ o F R:=
 Ef.xW fun e he h' hE=>by
  obtain⟨F1,F2,e1,e2⟩:=hl.split
  have hm:(azv m).map (·.key)=m.map (fun p=>Y1 p.1):=by
   rw[azv,List.map_map]
   have:∀(l:List (List Int×Value)) (n:Nat),(l.zipIdx n).map ((fun e:MapEntry=>e.key)∘fun p:(List Int×Value)×Nat=>{key:=Y1 p.1.1,val:=p.1.2,born:=p.2:MapEntry})=l.map fun p=>Y1 p.1:=fun l=>by
    induction l with
    | nil=>intro n;rfl
    | cons a l ih=>intro n;rw[List.zipIdx_cons,List.map_cons,ih];rfl
   exact this m 0
  simp only[execOp,ho,he y _ hy,he k _ hk,he v _ hv,Instr.mapUpdate,bind_eq,gq,bind_assoc,bind_pure,aC]
  refine⟨axd m,.inr (by rw[e1];simp),(fun _ _ _=>by simp),rfl,?_⟩
  simp only[gq,bind_pure,bind_assoc]
  have e0:Y1 a= .agg (a.map nI).toArray:=rfl
  rw[e0,aB1 h1,←e0,aGO h1 hw hm ha]
  refine⟨axd m,F1,F2,e1,(fun _ _ _=>by simp),rfl,?_⟩
  rw[e2]at H
  refine⟨_,.inr ⟨rfl,rfl⟩,?_⟩
  have e3:(azv m).toArray.push {key:=Y1 a,val:=u,born:=m.length}=(azv (m++[(a,u)])).toArray:=by rw[aIr];simp
  rw[e3,show m.length+1=(m++[(a,u)]).length by simp]
  exact H
theorem aG0{t kt vt:Nat}{y:Operand}{β:Nat}{m:List (List Int×Value)}(ho:o.op= .range t y)[TD x.P t (.map kt vt)](hy:ev ρ y=some (.map (some β)))(hl:(β,axd m)∈F)
  (H:∀r,R (.pointer (some ⟨r,0,none⟩)) ((r,.mapIter (some β) m.length #[] m.length)::F)):Ef x ρ o F R:=
 Ef.xW fun e he h' hE=>by
  simp only[execOp,ho,he y _ hy,Instr.range,bind_eq,gq,bind_assoc,bind_pure,aC]
  refine⟨axd m,.inr hl,(fun _ _ _=>by simp),rfl,?_⟩
  simp only[gq,bind_pure,bind_assoc]
  exact wI fun r h1 h2=>⟨_,.inl rfl,H r⟩
theorem aKA{y:Operand}{β r:Nat}{m:List (List Int×Value)}{sn:List Nat}{U:Obj→eG}(ho:o.op= .next y false)(hy:ev ρ y=some (.pointer (some ⟨r,0,none⟩)))(hm:(β,axd m)∈F)(hl:At r (.mapIter (some β) m.length sn.toArray m.length) F U)
  (H:∀i p,m[i]? =some p→i∉sn→R (.tuple #[.bool true,Y1 p.1,p.2]) (U (.mapIter (some β) m.length (sn++[i]).toArray m.length)))
  (H0:(∀i,i<m.length→i∈sn)→R (.tuple #[.bool false]) F):Ef x ρ o F R:=
 Ef.xW fun e he h' hE=>by
  obtain⟨F1,F2,e1,e2⟩:=hl.split
  simp only[execOp,ho,he y _ hy,Instr.next,bind_eq,gq,bind_assoc,bind_pure]
  refine⟨_,.inr (by rw[e1];exact List.mem_append_right _ (.head _)),(fun _ _ _=>by simp),rfl,?_⟩
  refine⟨axd m,.inr hm,(fun _ _ _=>by simp),rfl,?_⟩
  have hb:∀e∈azv m,e.born<m.length:=fun e he=>by
   obtain⟨p,hp,-⟩:=aF9 he
   exact(List.getElem?_eq_some_iff.1 hp).1
  have c0:(!sn.toArray.isEmpty&& !(azv m).toArray.isEmpty&&(azv m).toArray.all fun x=>decide (x.born≥m.length))=false:=by
   cases hq:azv m with
   | nil=>simp
   | cons a l=>
    have:=hb a (by rw[hq];exact .head _)
    simp;omega
  simp only[bind_pure,c0,Bool.false_eq_true,if_false]
  have hold:(((azv m).toArray.filter fun e=> !sn.toArray.contains e.born).filter fun e=>decide (e.born<m.length))=((azv m).filter fun e=> !sn.contains e.born).toArray:=by
   simp only[List.filter_toArray,List.contains_toArray]
   congr 1
   rw[List.filter_filter]
   exact List.filter_congr fun e he=>by simp[hb e he]
  have hnew:(((azv m).toArray.filter fun e=> !sn.toArray.contains e.born).filter fun e=>decide (e.born≥m.length))= #[]:=by
   simp only[List.filter_toArray,List.contains_toArray]
   have:(((azv m).filter fun e=> !sn.contains e.born).filter fun e=>decide (e.born≥m.length))=[]:=by
    rw[List.filter_eq_nil_iff]
    intro e he
    have:=hb e (List.mem_filter.1 he).1
    simp;omega
   rw[this]
  simp only[hold,hnew,Array.append_empty]
  have key:∀e∈(azv m).filter (fun e=> !sn.contains e.born),R (.tuple #[.bool true,e.key,e.val]) (U (.mapIter (some β) m.length (sn.toArray.push e.born) m.length)):=fun e he=>by
   obtain⟨he1,he2⟩:=List.mem_filter.1 he
   obtain⟨p,hp,hk,hv⟩:=aF9 he1
   have:=H e.born p hp (by simpa using he2)
   rw[hk,hv]
   simpa using this
  cases hL:(azv m).filter (fun e=> !sn.contains e.born)with
  | nil=>
   have h0:∀i,i<m.length→i∈sn:=fun i hi=>by
    rw[List.filter_eq_nil_iff]at hL
    have:=hL _ (aGN (List.getElem?_eq_getElem hi))
    simpa using this
   simp
   exact⟨_,.inl rfl,H0 h0⟩
  | cons a l=>
   rw[hL]at key
   have e5:((if(a::l).toArray.isEmpty=true then #[none]else #[])++Array.map some (a::l).toArray)=((a::l).map some).toArray:=by simp
   simp only[e5]
   have fin:∀n,n<(a::l).length→tr x.P h' (((match((a::l).map some).toArray[n]? with
     | some (some e)=>(setObj r (Obj.mapIter (some β) m.length (sn.toArray.push e.born) m.length)).bind fun __r=>Sem.pure (Value.tuple #[Value.bool true,e.key,e.val])
     | some none=>Sem.pure (Value.tuple #[Value.bool false])
     | none=>stuck "Next: no such candidate"):Sem Value).bind fun v=>Sem.pure (Next.value v)) F fun nx F'=>∃v,(nx=Next.value v∨nx=Next.skip∧v=undef)∧R v F':=fun n hn=>by
    obtain⟨e9,he9,-⟩:=has hn
    have hg:((a::l).map some).toArray[n]? =some (some e9):=by
     rw[List.getElem?_toArray,List.getElem?_map,he9];rfl
    have hR:=key e9 (List.mem_of_getElem? he9)
    rw[e2]at hR
    simp only[hg,bind_assoc,bind_pure]
    exact⟨_,F1,F2,e1,(fun _ _ _=>by simp),rfl,_,.inl rfl,hR⟩
   have hsz:((a::l).map some).toArray.size=(a::l).length:=by simp
   show(if Question.forced (.mapNext ((a::l).map some).toArray.size)=true then _ else∀n,_→_)
   rw[hsz]
   split
   ·exact fin 0 (by simp)
   ·rintro n ⟨t,rfl⟩
    exact fin _ (Nat.mod_lt _ (by simp))
theorem aJF{y:Operand}{β r i:Nat}{m:List (List Int×Value)}{sn:List Nat}{p:List Int×Value}(ho:o.op= .entry y)(hy:ev ρ y=some (.pointer (some ⟨r,0,none⟩)))(hm:(β,axd m)∈F)(hl:(r,.mapIter (some β) m.length (sn++[i]).toArray m.length)∈F)(hp:m[i]? =some p)
  (H:R (.tuple #[Y1 p.1,p.2]) F):Ef x ρ o F R:=
 Ef.xW fun e he h' hE=>by
  simp only[execOp,ho,he y _ hy,Instr.entry,bind_eq,gq,bind_assoc,bind_pure]
  refine⟨_,.inr hl,(fun _ _ _=>by simp),rfl,?_⟩
  have hb:(sn++[i]).toArray.back? =some i:=by simp
  simp only[hb,bind_pure]
  refine⟨axd m,.inr hm,(fun _ _ _=>by simp),rfl,?_⟩
  have hf:(azv m).find? (fun e=>e.born==i)=some {key:=Y1 p.1,val:=p.2,born:=i}:=by
   cases hq:(azv m).find? (fun e=>e.born==i)with
   | none=>exact absurd (List.find?_eq_none.1 hq _ (aGN hp)) (by simp)
   | some e=>
    have h1:=List.find?_some hq
    have h2:=List.mem_of_find?_eq_some hq
    have h1':e.born=i:=by simpa using h1
    obtain⟨q,h3,h4,h5⟩:=aF9 h2
    rw[h1',hp]at h3
    cases h3
    obtain⟨a,b,c⟩:=e
    simp only at h1' h4 h5
    rw[h1',h4,h5]
  have hf':(azv m).toArray.find? (fun e=>e.born==i)=some {key:=Y1 p.1,val:=p.2,born:=i}:=by
   simpa using hf
  simp only[bne_self_eq_false,Bool.false_eq_true,if_false,hf',bind_pure]
  exact⟨_,.inl rfl,H⟩
end rules
end Go.aS

/- append where the slice that was appended to goes on being used. Conditions: none; over any program. -/
namespace Go.aS
section
variable{α:Type}{row:α→List Value}{w:Nat}[rw':Rw row w]
def Back(E:TypeId)(row:α→List Value)[Rw row w](v:Value)(l:List α)(v':Value)(l2:List α)(A0:eG):Prop:=∀A2,Os E row v' l2 A2→∃A3,Os E row v l A3∧Sb A3 (A2++A0)
theorem Os.aL7{E:TypeId}{β cap:Nat}{l l':List α}{A:eG}(H:Os E row (.slice (some ⟨β,0,none⟩) (l.length+l'.length) cap) (l++l') A):Os E row (.slice (some ⟨β,0,none⟩) l.length cap) l A:=by
 rcases H with⟨_,he,_⟩ | ⟨b,c,cp,J,he,rfl,h1,h2,h3,h4⟩
 ·cases he
 ·rw[List.length_append]at he h2
  cases he
  refine .inr ⟨_,c,_,J,rfl,rfl,h1,by omega,?_,h4⟩
  obtain⟨pre,post,e1,e2⟩:=h3
  exact⟨pre,flat row l'++post,by rw[e1,zk];simp,e2⟩

theorem aHt{P:Program}{h:Hp}{t t' ty E E' by':Nat}{z:Value}{zc:Array Value}[TD P t (.slice E)][TD P t' (.slice E')][TI P E w by' z zc]{v x:Value}{l l':List α}{A:eG}{Q:Value→eG→Prop}(hzc:zc.size=w)
  (hs:Os E row v l A) (hx:Sl h row x l') (hb:(2*(l.length+l'.length)+768)*by'≤2 ^ 48) (hby:0<by')
  (K:∀v' A1 A0,Os E row v' (l++l') A1→Back E row v l v' (l++l') A0→Q v' (A1++A0)):tr P h (Builtin.append_ #[t,t'] ty #[v,x]) A Q:=by
 obtain⟨j,hj,hj1,hj2,hj3,hj4⟩:=TI.out (inferInstance:TI P E w by' z zc)
 have hm:((l.length+l'.length:Nat):Int)≤IntKind.i64.max:=by
  have h1:(2*(l.length+l'.length)+768)*1≤(2*(l.length+l'.length)+768)*by':=Nat.mul_le_mul_left _ hby
  have h2:IntKind.i64.max=9223372036854775807:=rfl
  omega
 obtain⟨ax,Q9,hxe,_⟩:=id hx
 obtain⟨a,cap,hv⟩:=hs.dA
 subst hv hxe
 have e1:(#[t,t']:Array TypeId)[0]? =some t:=rfl
 have e2:(#[t,t']:Array TypeId)[1]? =some t':=rfl
 have e3:(#[Value.slice a l.length cap,Value.slice ax l'.length Q9]:Array Value)[0]? =some (.slice a l.length cap):=rfl
 have e4:(#[Value.slice a l.length cap,Value.slice ax l'.length Q9]:Array Value)[1]? =some (.slice ax l'.length Q9):=rfl
 simp only[Builtin.append_,e1,e2,e3,e4,bind_eq,gq,bind_assoc,bind_pure,aC,dH,Bool.false_eq_true,if_false,Builtin.lenOf,Bool.not_false,if_true]
 by_cases hc:l.length+l'.length≤cap
 ·rw[if_pos hc]
  refine bJ (DU hx ?_)
  rcases hs with⟨rfl,he,hsh⟩ | ⟨β,c,cap',J,he,rfl,h1,h2,h3,hsh⟩
  ·cases he
   have:l'=[]:=List.length_eq_zero_iff.1 (by simp at hc;simp[hc])
   subst this
   have:=K _ A [] (.nil hsh) (fun A2 h2=>⟨A2,.nil h2.shut,by simp[Sb.refl]⟩)
   rw[List.append_nil]at this
   exact this
  ·cases he
   have hl3:=jT (row:=row) l
   have WE:=jT (row:=row) l'
   have hle:l.length*w+l'.length*w≤c.size:=by rw[h1,←Nat.add_mul];exact Nat.mul_le_mul_right _ hc
   have ea:(⟨β,0,none⟩:Addr).add (l.length*w)=⟨β,l.length*w,none⟩:=by rw[jE rfl];simp
   simp only[ea]
   refine bJ (kV (flat row l') 0 c (Lu l') At.head (by rw[WE];simp;omega) ?_)
   have:=K (.slice (some ⟨β,0,none⟩) (l.length+l'.length) cap) ((β,.cells (jv c (l.length*w) (flat row l')) E (0,0))::J) [] (.inr ⟨β,jv c (l.length*w) (flat row l'),cap,J,by rw[List.length_append],by simp,by rw[y9,h1],by rw[List.length_append];exact hc,by
    rw[zk,←hl3]
    exact Gz _ _ h3 (by rw[hl3,WE];exact hle),hsh⟩) (fun A2 h2=>⟨A2,h2.aL7,by simp[Sb.refl]⟩)
   rw[List.append_nil]at this
   exact this
 ·rw[if_neg hc]
  have c1:¬(((l.length+l'.length:Nat):Int)>IntKind.i64.max∧(false=true∨(by':Nat)=0)):=by omega
  have c2:¬Builtin.nextslicecap (l.length+l'.length) cap*by'>2 ^ 48:=by
   have:=IV (show cap<l.length+l'.length by omega)
   have:=Nat.mul_le_mul_right by' this
   omega
  simp only[dJ hj,hj2]
  have c1':¬(((l.length+l'.length:Nat):Int)>IntKind.i64.max):=by omega
  simp only[c1',false_and,if_false]
  rw[dJ hj,hj2,if_neg c2]
  intro n ⟨tp,hn⟩
  have hn':l.length+l'.length≤n:=by rw[hn];simp only[Question.cut];omega
  clear hn c2
  show tr P h (Sem.bind (typeInfo E) _) A Q
  rw[dJ hj,hj2]
  
  have room:∀{β:Type} {f:Unit→Sem β} {Q':β→eG→Prop},tr P h (f ()) A Q'→tr P h ((askRoom (n*by')).bind f) A Q':=by
   intro β f Q' H
   unfold askRoom
   split
   ·exact⟨rfl,H⟩
   ·exact H
  refine room (bJ (UO hs (bJ (DU hx ?_))))
  simp only[fG,hj4,newRow,bind_eq,gq,bind_assoc,bind_pure]
  refine wI fun r _ _=>?_
  refine K _ [_] A (.inr ⟨r,_,n,[],by rw[List.length_append],rfl,?_,by rw[List.length_append];exact hn',?_,.nil⟩) (fun A2 h2=>⟨A,hs,.left .refl h2.shut⟩)
  ·simp only[Array.size_append,List.size_toArray,jT,zn,hzc,←Nat.add_mul]
   congr 1;omega
  ·refine⟨[],(Builtin.zeroCells zc (n- (l.length+l'.length))).toList,?_,rfl⟩
   rw[zk]
   simp only[Array.toList_append,List.nil_append,List.append_assoc]
end
section rules
variable{x:Cx}{ρ:Env}{F:eG}{o:Oper}{R:Value→eG→Prop}{α:Type}{row:α→List Value}{w:Nat}[rw':Rw row w]
theorem aFE{t t' E E' by':Nat}{z:Value}{zc:Array Value}{y yx:Operand}{v xv:Value}{l l':List α}{A:eG}{U:eG→eG}(ho:o.op= .call ⟨.builtin .append, #[y,yx], #[t,t']⟩)[TD x.P t (.slice E)][TD x.P t' (.slice E')][TI x.P E w by' z zc]
  (hy:ev ρ y=some v) (hx:ev ρ yx=some xv) (hs:Os E row v l A) (hg:Seg A F U) (hsrc:∀h',Ext x.h h'→fF (U []) h'→Sl h' row xv l') (hb:(2*(l.length+l'.length)+768)*by'≤2 ^ 48) (hby:0<by') (hzc:zc.size=w)
  (K:∀v' A1 A0,Os E row v' (l++l') A1→Back E row v l v' (l++l') A0→R v' (U (A1++A0))):Ef x ρ o F R:=fun e he=>
 ⟨A,U [],hg.perm.1,fun h' e1 e2=>by
  simp only[execOp,ho,resolve,invoke,builtin,List.map_toArray,List.map_cons,List.map_nil,he y _ hy,he yx _ hx,bind_eq,gq,bind_pure]
  exact bJ (aHt hzc hs (hsrc h' e1 e2) hb hby fun v' A1 A0 H H'=>⟨U (A1++A0),hg.perm.2 (A1++A0),K v' A1 A0 H H'⟩)⟩
end rules
theorem aIs{α:Type}{row:α→List Value}{w:Nat}[rw':Rw row w]{P:Program}{h:Hp}{E:TypeId}{A F:eG}{v:Value}{l:List α}{Q:Array Value→eG→Prop}(H:Os E row v l A)(hm:∀p∈A,p∈F)(K:Q (flat row l).toArray F):tr P h (Builtin.firstCells w l.length v) F Q:=by
 rcases H with⟨rfl,rfl,_⟩ | ⟨β,c,cap,J,rfl,rfl,h1,h2,h3,_⟩
 ·exact K
 ·have h6:=h3.len
  have h7:=h3.extract
  rw[jT]at h6 h7
  simp only[Builtin.firstCells,loadCells]
  refine gX (.inr (hm _ (List.mem_cons_self ..))) _ 0 #[] (by omega) ?_
  simp only[Nat.add_zero,Array.empty_append]
  rw[h7];exact K
theorem aKe{x:Cx}{ρ:Env}{F:eG}{o:Oper}{R:Value→eG→Prop}{α:Type}{row:α→List Value}{w:Nat}[Rw row w]{t t' E E' by':Nat}{z:Value}{zc:Array Value}{y yx:Operand}{xv:Value}{b off n cap:Nat}{c:Array Value}{C:TypeId}{l:List α}{A:eG}{U:Obj→eG}(ho:o.op= .call ⟨.builtin .copy, #[y,yx], #[t,t']⟩)[TD x.P t (.slice E)][TI x.P E w by' z zc]
  (hy:ev ρ y=some (.slice (some ⟨b,off,none⟩) n cap)) (hx:ev ρ yx=some xv) (hs:Os E' row xv l A) (hm:∀p∈A,p∈F) (hle:l.length≤n) (hl:At b (.cells c C (0,0)) F U) (hc:off+l.length*w≤c.size)
  (H:R (.int .i64 l.length) (U (.cells (jv c off (flat row l)) C (0,0)))):Ef x ρ o F R:=
 Ef.xW fun e he h' hE=>by
  obtain⟨a,cp,rfl⟩:=hs.dA
  have hmin:Nat.min l.length n=l.length:=Nat.min_eq_left hle
  simp only[execOp,ho,resolve,invoke,builtin,Builtin.copy_,List.map_toArray,List.map_cons,List.map_nil,he y _ hy,he yx _ hx,List.getElem?_toArray,List.getElem?_cons_zero,List.getElem?_cons_succ,bind_eq,gq,bind_assoc,bind_pure,aC,Builtin.lenOf,dH,hmin]
  refine bJ (aIs hs hm ?_)
  refine bJ (kV (flat row l) 0 c (Lu l) hl (by rw[jT];omega) ?_)
  exact⟨_,.inl rfl,by simpa[goInt]using H⟩
end Go.aS

/- Numbers, sums of heats. Conditions: none; over the given program. -/
namespace Go.aS
set_option maxRecDepth 100000
set_option maxHeartbeats 4000000
theorem aHu(main:Side)(h:Hp)(s:Spn)(hs:SpB s):Pu prog main aAK #[s.val] h (I (aGj s)):=by
 unfold SpB at hs
 refine dV.aG aDe rfl (by show 1≤10;decide) [(0,s.val)] ⟨rfl,trivial⟩ ?_
 refine W.seq<|W.region rfl ?_
 refine Ops.box (fun β1=>?_)
 refine agb rfl rfl rfl<|pq<|W.seq<|W.region rfl ?_
 refine agY rfl ?_
 refine agX rfl ?_
 refine agY rfl ?_
 refine agX rfl ?_
 refine ag5 rfl ?_
 refine ag1 rfl ?_
 refine agW (y8 rfl rfl rfl) rfl ?_
 refine agb rfl rfl rfl<|pq<|W.ret ?_
 exact uZ rfl
theorem aKf(main:Side)(h:Hp)(s t:Spn):Pu prog main aCy #[s.val,t.val] h (aGK s t).val:=by
 refine dV.aG aEv rfl (by show 2≤16;decide) [(0,s.val),(1,t.val)] ⟨rfl,rfl,trivial⟩ ?_
 refine W.seq<|W.region rfl ?_
 refine Ops.box (fun yR=>?_)
 refine Ops.box (fun uU=>?_)
 refine Ops.new (fun wC=>?_)
 refine pq<|W.seq<|W.region rfl ?_
 refine agY rfl ?_
 refine agX rfl ?_
 refine agY rfl ?_
 refine agX rfl ?_
 refine agW (y8 rfl rfl rfl) rfl ?_
 refine agY rfl ?_
 refine agX rfl ?_
 refine agY rfl ?_
 refine agX rfl ?_
 refine agW (Tm rfl rfl rfl) rfl ?_
 refine agW (eH rfl rfl rfl) rfl ?_
 first | refine Ops.jP ?_ | refine Ops.nY ?_
 refine pq<|W.ret ?_
 exact QJ (hv:=D_ zJ) ⟨rfl,.cons rfl (.cons rfl (.cons rfl .nil))⟩
theorem aFk{l:List Int}{j:Nat}{a:Int}(h:l[j]? =some a):aAm (l.take (j+1))=aAm (l.take j)+a:=by
 rw[List.take_add_one,h,aJo]
 simp[aAm]
theorem aEP{l:List Int}(h:∀a∈l,0≤a∧a≤4):0≤aAm l∧aAm l≤4*l.length:=by
 induction l with
 | nil=>simp[aAm]
 | cons a l ih=>
  have h1:=h a (List.mem_cons_self ..)
  have h2:=ih fun x hx=>h x (List.mem_cons_of_mem _ hx)
  rw[aDH,List.length_cons]
  omega

theorem aLb(main:Side)(h:Hp)(k:List Int)(t:Nat)(hk:k.length=5)(ht:t≤5)(hb:∀a∈k,0≤a∧a≤4):Pu prog main az8 #[Y1 k,I t] h (I (aAm (k.take t))):=by
 have hsz:(k.map nI).toArray.size=5:=by simp[hk]
 refine dV.aG aCi rfl (by show 2≤18;decide) [(0,Y1 k),(1,I t)] ⟨rfl,rfl,trivial⟩ ?_
 refine W.seq<|W.region rfl ?_
 refine Ops.box (fun yR=>?_)
 refine agb rfl rfl rfl<|pq<|W.seq<|W.region rfl<|agb rfl rfl rfl<|pq<|W.seq<|W.seq ?_
 refine W.region rfl<|qm rfl rfl rfl<|qm rfl rfl rfl<|pq<|W.block ?_
 refine W.loop (σ:=Nat) (fun j=>j≤t) (fun j=>[(8,I j),(7,I t),(2,bI yR),(5,I (aAm (k.take j)))]) (fun _=>[(yR,.cells (k.map nI).toArray Pn (0,0))]) (fun j=>t-j) 0 (Nat.zero_le _) ⟨rfl,rfl,rfl,rfl,trivial⟩ .refl ?_
 rintro j hj
 refine W.seq<|W.region rfl ?_
 refine agW (fO rfl rfl rfl) rfl ?_
 refine pq<|W.seq ?_
 refine W.bC rfl (fun c9=>?_) (fun c9=>?_)
 ·obtain⟨a,ha,-⟩:=has (show j<k.length by omega)
  have hb1:=hb a (List.mem_of_getElem? ha)
  have hb2:=aEP (l:=k.take j) fun x hx=>hb x (List.mem_of_mem_take hx)
  have hlen:(k.take j).length≤5:=by rw[List.length_take];omega
  have hx:(k.map nI).toArray[0+j*1]? =some (I a):=by simp[ha,nI]
  have hnx:=aFk ha
  refine W.skip<|aA<|W.seq<|W.block<|W.seq<|W.region rfl<|qm rfl rfl rfl<|agb rfl rfl rfl<|pq ?_
  refine W.region rfl<|qm rfl rfl rfl<|qm rfl rfl rfl ?_
  first | refine agW (UN rfl rfl rfl) rfl ?_ | refine agW (Qg rfl rfl rfl) rfl ?_
  refine agX rfl ?_
  refine ag1 rfl ?_
  refine agb rfl rfl rfl<|Ops.nil<|dI<|aA<|W.region rfl ?_
  refine ag1 rfl ?_
  refine qm rfl rfl rfl<|pq ?_
  exact⟨rfl,j+1,by omega,by omega,⟨rfl,rfl,rfl,lk rfl (by rw[hnx]),trivial⟩,TW⟩
 ·obtain rfl:j=t:=by omega
  refine W.exit<|bP<|bP<|gG<|aA<|W.seq<|W.region rfl<|qm rfl rfl rfl<|agb rfl rfl rfl<|Ops.nil ?_
  refine aA<|W.ret ?_
  exact uZ rfl
end Go.aS

/- Quiet operations whose values are named anew. Conditions: none; over any program. -/
namespace Go.aS
section
variable{x:Cx}{Q:Post}{ρ:Env}{ds:List Deferred}{F L:eG}{ops:Array Oper}{i d:Nat}{rest:List Nat}{op:Op}{ty:TypeId}{pos:String}{bK:Array Edge}{g:Option (Nat×Bool)}{v u:Value}
theorem KU(hy:Yv x (· =F) ρ ⟨some d,op,ty,pos,bK,g⟩ v)(e:v=u)(ho:cO ops.toList i=some ⟨some d,op,ty,pos,bK,g⟩)(hw:want ops ρ ⟨some d,op,ty,pos,bK,g⟩)(hd:Nat.blt d x.n=true)(hn:QS op=true)(H:Ops x ops rest Q ((d,u)::ρ) ds F):Ops x ops (i::rest) Q ρ ds F:=
 oq (e▸hy) ho hw hd hn H
theorem aqe{fuel listed:Nat}(hy:Yv x (Keeps L) ρ ⟨some d,op,ty,pos,bK,g⟩ v)(e:v=u)(ho:cO ops.toList i=some ⟨some d,op,ty,pos,bK,g⟩)(hw:dR ops (look ρ) ⟨some d,op,ty,pos,bK,g⟩ true)(hd:Nat.blt d x.n=true)(hn:QS op=true)(H:Any x ops L fuel (listed||| 2 ^ i) Q ((d,u)::ρ) ds F)(hr:(Fq ops listed i&&xR ops listed i&&DJ ops)=true:=by kernel_rfl)(hS:Keeps L F:=by first | exact fun _ h=>h | exact fun _ h=>absurd h List.not_mem_nil | ((repeat(first | exact fun _ h=>h | apply Keeps.cons | apply Keeps.app)) <;>fail) | (repeat(first | exact Keeps.nil | refine Keeps.one (by repeat(first | exact List.Mem.head _ | apply List.Mem.tail)) ?_))):Any x ops L (fuel+1) listed Q ρ ds F:=
 aq (e▸hy) ho hw hd hn H hr hS
end
section
variable{x:Cx}{S:eG→Prop}{ρ:Env}{o:Oper}
end
end Go.aS

/- Groups of truths: how much is added; marks; threads; thicknesses. Conditions: none; over the given program. -/
namespace Go.aS
set_option maxRecDepth 100000
set_option maxHeartbeats 4000000
abbrev awQ(vs vr vm vh vp:Value)(β:Nat):Obj:=.cells #[vs,vr,vm,vh,vp,.map (some β)] aE6 (0,0)

theorem aAU{rs k:List Int}{Jq t:Nat}(hr:∀r∈rs,1≤r∧r≤3)(hb:∀a∈k,0≤a∧a≤4)(ht:t≤5):0≤aw_ rs k Jq t∧aw_ rs k Jq t≤60:=by
 have hb2:=aEP (l:=k.take t) fun x hx=>hb x (List.mem_of_mem_take hx)
 have hlen:(k.take t).length≤5:=by rw[List.length_take];omega
 unfold aw_
 generalize aAm (k.take t)=s at*
 have:rs.getD Jq 0=0∨rs.getD Jq 0=1∨rs.getD Jq 0=2∨rs.getD Jq 0=3:=by
  rw[List.getD_eq_getElem?_getD]
  rcases h:rs[Jq]? with _ | r
  ·exact .inl rfl
  ·have:=hr r (List.mem_of_getElem? h)
   show r=0∨r=1∨r=2∨r=3
   omega
 rcases this with e | e | e | e <;>rw[e] <;>omega

theorem aHQ(main:Side)(h:Hp)(b β:Nat)(vs vr vm vh vp:Value)(rs:List Int)(k:List Int)(Jq t:Nat)(hb:h b=some (awQ vs vr vm vh vp β))(hr:Sl h fH vr rs)(hr1:∀r∈rs,1≤r∧r≤3)(aGd:Jq<rs.length)(hk:k.length=5)(ht:t≤5)(hb4:∀a∈k,0≤a∧a≤4):Pu prog main aAp #[bI b,Y1 k,I Jq,I t] h (I (aw_ rs k Jq t)):=by
 have hsz:(k.map nI).toArray.size=5:=by simp[hk]
 have hon:ones (k.map nI).toArray.toList=true:=by
  have:∀l:List Int,ones (l.map nI)=true:=fun l=>by induction l with | nil=>rfl | cons a l ih=>exact ih
  exact this k
 have hm:=aAU (Jq:=Jq) hr1 hb4 ht
 obtain⟨r,hri,-⟩:=has aGd
 have he:aw_ rs k Jq t=r*aAm (k.take t):=by unfold aw_;rw[List.getD_eq_getElem?_getD,hri];rfl
 rw[he]at hm⊢
 obtain⟨a,cap,rfl⟩:=hr.dA
 obtain⟨b',off,c,E,fz,e3,hbb,hx,hy,hz⟩:=hr.at hri
 cases e3
 have x0:c[off+Jq*1+0]? =some (I r):=hz 0 (by decide)
 clear hx hz hy
 refine dV.aG aCL rfl (by show 4≤21;decide) [(0,bI b),(1,Y1 k),(2,I Jq),(3,I t)] ⟨rfl,rfl,rfl,rfl,trivial⟩ ?_
 refine W.seq<|W.region rfl ?_
 refine Ops.box (fun mZ=>?_)
 refine agb rfl rfl rfl<|pq<|W.seq ?_
 refine W.DR [(mZ,.cells (k.map nI).toArray Pn (0,0))] (n:=13) rfl ?_
 refine dn 0 (aN rfl rfl) rfl ?_
 first | refine dn 1 (bg rfl rfl) rfl ?_ | refine dn 1 (aT rfl rfl) rfl ?_
 refine dn 2 (ay rfl rfl) rfl ?_
 refine dn 3 (ay rfl rfl) rfl ?_
 refine dn 4 (iQ rfl rfl) rfl ?_
 refine dn 5 (aN rfl rfl) rfl ?_
 first | refine dn 6 (G_ rfl rfl rfl) rfl ?_ | refine dn 6 (o_ rfl rfl rfl) rfl ?_
 refine dn 7 (iQ rfl rfl) rfl ?_
 first | refine dn 8 (Bf rfl rfl) rfl ?_ | refine dn 8 (zi rfl rfl) rfl ?_ | refine dn 8 (ady rfl rfl) rfl ?_
 refine dn 9 (aN rfl rfl) rfl ?_
 refine Va (i:=10) (fun h' hE hL=>aLb _ h' k t hk ht hb4) ?_
 first | refine dn 11 (aaC rfl rfl rfl) rfl ?_ | refine dn 11 (Fz rfl rfl rfl) rfl ?_
 refine dn 12 (jS rfl rfl) rfl ?_
 refine az ?_
 refine aA<|W.ret ?_
 exact uZ rfl

theorem aJs(main:Side)(h:Hp)(b β:Nat)(vs vr vm vh vp:Value)(ms:Int×Int×Int)(t:Nat)(hb:h b=some (awQ vs vr vm vh vp β))(hm:Sl h fH vm [ms.1,ms.2.1,ms.2.2])(hms:1≤ms.1∧ms.1<ms.2.1∧ms.2.1<ms.2.2∧ms.2.2≤60)(ht:t≤3):Pu prog main azF #[bI b,I t] h (azu ms t).val:=by
 obtain⟨m1,m2,m3⟩:=ms
 simp only at hm hms
 obtain⟨l,hl⟩:∃l,l=[m1,m2,m3]:=⟨_,rfl⟩
 rw[←hl]at hm
 have h3:l.length=3:=by rw[hl];rfl
 have g0:l[0]? =some m1:=by rw[hl];rfl
 have g1:l[1]? =some m2:=by rw[hl];rfl
 have g2:l[2]? =some m3:=by rw[hl];rfl
 obtain⟨a,cap,rfl⟩:=hm.dA
 obtain⟨b1,off,c,E,fz,e3,hb1,hx,hy,hz⟩:=hm.at g0
 cases e3
 have x0:c[off+0*1+0]? =some (I m1):=hz 0 (by decide)
 clear hx hz hy
 obtain⟨b',off',c',E',fz',e3,hb',hx,hy,hz⟩:=hm.at g1
 cases e3
 rw[hb1]at hb'
 cases hb'
 have x1:c[off+1*1+0]? =some (I m2):=hz 0 (by decide)
 clear hx hz hy
 obtain⟨b',off',c',E',fz',e3,hb',hx,hy,hz⟩:=hm.at g2
 cases e3
 rw[hb1]at hb'
 cases hb'
 have x2:c[off+2*1+0]? =some (I m3):=hz 0 (by decide)
 clear hx hz hy
 have d1:(#[I (-1048576),I m1,I m2,I m3,I 1048576]:Array Value)[0+t*1+0]? =some (I ([-1048576,m1,m2,m3,1048576].getD t 0)):=by
  have:t=0∨t=1∨t=2∨t=3:=by omega
  rcases this with rfl | rfl | rfl | rfl <;>rfl
 have d2:(#[I (-1048576),I m1,I m2,I m3,I 1048576]:Array Value)[0+(t+1)*1+0]? =some (I ([-1048576,m1,m2,m3,1048576].getD (t+1) 0)):=by
  have:t=0∨t=1∨t=2∨t=3:=by omega
  rcases this with rfl | rfl | rfl | rfl <;>rfl
 have d3: -2000000≤[-1048576,m1,m2,m3,1048576].getD (t+1) 0∧[-1048576,m1,m2,m3,1048576].getD (t+1) 0≤2000000:=by
  have:t=0∨t=1∨t=2∨t=3:=by omega
  rcases this with rfl | rfl | rfl | rfl <;>simp <;>omega
 rw[show azu (m1,m2,m3) t=⟨[-1048576,m1,m2,m3,1048576].getD t 0,[-1048576,m1,m2,m3,1048576].getD (t+1) 0-1⟩from rfl]
 generalize[-1048576,m1,m2,m3,1048576].getD t 0=y1 at*
 generalize[-1048576,m1,m2,m3,1048576].getD (t+1) 0=y2 at*
 refine dV.aG aBT rfl (by show 2≤39;decide) [(0,bI b),(1,I t)] ⟨rfl,rfl,trivial⟩ ?_
 refine W.seq<|W.region rfl ?_
 refine Ops.new (fun wC=>?_)
 refine pq<|W.seq ?_
 refine W.DR [] (n:=23) rfl ?_
 refine dn 0 (aN rfl rfl) rfl ?_
 first | refine dn 1 (bg rfl rfl) rfl ?_ | refine dn 1 (aT rfl rfl) rfl ?_
 refine dn 2 (ay rfl rfl) rfl ?_
 refine dn 3 (ay rfl rfl) rfl ?_
 refine dn 4 (iQ rfl rfl) rfl ?_
 first | refine dn 5 (G_ rfl rfl rfl) rfl ?_ | refine dn 5 (o_ rfl rfl rfl) rfl ?_
 refine dn 6 (iQ rfl rfl) rfl ?_
 refine dn 7 (aN rfl rfl) rfl ?_
 first | refine dn 8 (bg rfl rfl) rfl ?_ | refine dn 8 (aT rfl rfl) rfl ?_
 refine dn 9 (ay rfl rfl) rfl ?_
 refine dn 10 (ay rfl rfl) rfl ?_
 refine dn 11 (iQ rfl rfl) rfl ?_
 first | refine dn 12 (G_ rfl rfl rfl) rfl ?_ | refine dn 12 (o_ rfl rfl rfl) rfl ?_
 refine dn 13 (iQ rfl rfl) rfl ?_
 refine dn 14 (aN rfl rfl) rfl ?_
 first | refine dn 15 (bg rfl rfl) rfl ?_ | refine dn 15 (aT rfl rfl) rfl ?_
 refine dn 16 (ay rfl rfl) rfl ?_
 refine dn 17 (ay rfl rfl) rfl ?_
 refine dn 18 (iQ rfl rfl) rfl ?_
 first | refine dn 19 (G_ rfl rfl rfl) rfl ?_ | refine dn 19 (o_ rfl rfl rfl) rfl ?_
 refine dn 20 (iQ rfl rfl) rfl ?_
 refine abl (i:=21) (cs:= #[I (-1048576),I m1,I m2,I m3,I 1048576]) (fun arO=>?_) rfl
 refine dn 22 (jS rfl rfl) rfl ?_
 refine az ?_
 refine aA<|W.seq ?_
 refine W.DR [(arO,.cells #[I (-1048576),I m1,I m2,I m3,I 1048576] dL (0,0))] (n:=12) rfl ?_
 refine dn 0 (aN rfl rfl) rfl ?_
 refine dn 1 (aN rfl rfl) rfl ?_
 first | refine dn 2 (G_ rfl rfl rfl) rfl ?_ | refine dn 2 (o_ rfl rfl rfl) rfl ?_
 refine dn 3 (iQ rfl rfl) rfl ?_
 refine dn 4 (aN rfl rfl) rfl ?_
 refine dn 5 (aN rfl rfl) rfl ?_
 refine aqe (i:=6) (Zi rfl rfl rfl) (congrArg (Value.int .i64) (show(t:Int)+1=((t+1:Nat):Int) by omega)) rfl an rfl rfl ?_
 first | refine dn 7 (G_ rfl rfl rfl) rfl ?_ | refine dn 7 (o_ rfl rfl rfl) rfl ?_
 refine dn 8 (iQ rfl rfl) rfl ?_
 first | refine dn 9 (acL rfl rfl rfl) rfl ?_ | refine dn 9 (M_ rfl rfl rfl) rfl ?_
 refine dn 10 (eH rfl rfl rfl) rfl ?_
 first | refine ae (i:=11) rfl an rfl rfl (eSW rfl rfl rfl ?_) | refine ae (i:=11) rfl an rfl rfl (eSA rfl rfl rfl ?_)
 refine⟨.inl (by kernel_rfl),?_⟩
 refine az ?_
 refine aA<|W.ret ?_
 exact QJ (hv:=D_ zJ) ⟨rfl,.cons rfl (.cons rfl .nil)⟩

theorem aFg(main:Side)(h:Hp)(b β:Nat)(vs vr vm vh vp:Value)(ms:Int×Int×Int)(n:Int)(hb:h b=some (awQ vs vr vm vh vp β))(hm:Sl h fH vm [ms.1,ms.2.1,ms.2.2])(hms:1≤ms.1∧ms.1<ms.2.1∧ms.2.1<ms.2.2∧ms.2.2≤60):Pu prog main azj #[bI b,I n] h (I (awL ms n:Nat)):=by
 obtain⟨m1,m2,m3⟩:=ms
 simp only at hm hms
 obtain⟨l,hl⟩:∃l,l=[m1,m2,m3]:=⟨_,rfl⟩
 rw[←hl]at hm
 have h3:l.length=3:=by rw[hl];rfl
 have g0:l[0]? =some m1:=by rw[hl];rfl
 have g1:l[1]? =some m2:=by rw[hl];rfl
 have g2:l[2]? =some m3:=by rw[hl];rfl
 obtain⟨a,cap,rfl⟩:=hm.dA
 obtain⟨b1,off,c,E,fz,e3,hb1,hx,hy,hz⟩:=hm.at g0
 cases e3
 have x0:c[off+0*1+0]? =some (I m1):=hz 0 (by decide)
 clear hx hz hy
 obtain⟨b',off',c',E',fz',e3,hb',hx,hy,hz⟩:=hm.at g1
 cases e3
 rw[hb1]at hb'
 cases hb'
 have x1:c[off+1*1+0]? =some (I m2):=hz 0 (by decide)
 clear hx hz hy
 obtain⟨b',off',c',E',fz',e3,hb',hx,hy,hz⟩:=hm.at g2
 cases e3
 rw[hb1]at hb'
 cases hb'
 have x2:c[off+2*1+0]? =some (I m3):=hz 0 (by decide)
 clear hx hz hy
 refine dV.aG aBe rfl (by show 2≤43;decide) [(0,bI b),(1,I n)] ⟨rfl,rfl,trivial⟩ ?_
 refine W.seq<|W.region rfl<|agb rfl rfl rfl<|pq<|W.seq<|W.region rfl<|agb rfl rfl rfl<|pq ?_
 refine W.seq<|W.block<|W.seq<|W.block<|W.seq<|W.block<|W.seq<|W.block<|W.seq<|W.seq ?_
 refine W.seq<|W.region rfl<|qm rfl rfl rfl<|qm rfl rfl rfl ?_
 refine ag4 rfl ?_
 refine agY rfl ?_
 refine agY rfl ?_
 refine agX rfl ?_
 refine ag3 rfl ?_
 refine agX rfl ?_
 refine agW (IJ rfl rfl rfl) rfl ?_
 refine agb rfl rfl rfl<|pq ?_
 refine W.bC rfl (fun c6=>?_) (fun c6=>?_)
 ·refine W.exit<|bP<|bP<|gG<|aA<|W.region rfl<|qm rfl rfl rfl ?_
  refine ag1 rfl ?_
  refine agb rfl rfl rfl<|Ops.nil<|dI<|aA<|W.region rfl<|qm rfl rfl rfl ?_
  refine ag1 rfl ?_
  refine agb rfl rfl rfl<|Ops.nil<|dI<|aA<|W.seq<|W.region rfl<|qm rfl rfl rfl ?_
  refine ag1 rfl ?_
  refine agb rfl rfl rfl<|pq<|W.exit<|gG<|aA<|W.seq<|W.region rfl<|qm rfl rfl rfl<|agb rfl rfl rfl ?_
  refine pq<|W.ret ?_
  refine uZ ?_
  show I _=I _
  congr 1
  unfold awL
  simp only at*
  (repeat' split) <;>omega
 ·refine W.skip<|aA<|W.seq<|W.seq<|W.region rfl<|qm rfl rfl rfl<|qm rfl rfl rfl ?_
  refine ag4 rfl ?_
  refine agY rfl ?_
  refine agY rfl ?_
  refine agX rfl ?_
  refine ag3 rfl ?_
  refine agX rfl ?_
  refine agW (IJ rfl rfl rfl) rfl ?_
  refine agb rfl rfl rfl<|pq ?_
  refine W.bC rfl (fun c16=>?_) (fun c16=>?_)
  ·refine W.exit<|bP<|bP<|Tt<|bP<|gG<|aA<|W.region rfl<|qm rfl rfl rfl ?_
   refine ag1 rfl ?_
   refine agb rfl rfl rfl<|Ops.nil<|dI<|aA<|W.seq<|W.region rfl<|qm rfl rfl rfl ?_
   refine ag1 rfl ?_
   refine agb rfl rfl rfl<|pq<|W.exit<|gG<|aA<|W.seq<|W.region rfl<|qm rfl rfl rfl<|agb rfl rfl rfl ?_
   refine pq<|W.ret ?_
   refine uZ ?_
   show I _=I _
   congr 1
   unfold awL
   simp only at*
   (repeat' split) <;>omega
  ·refine W.skip<|aA<|W.seq<|W.region rfl<|qm rfl rfl rfl<|qm rfl rfl rfl ?_
   refine ag4 rfl ?_
   refine agY rfl ?_
   refine agY rfl ?_
   refine agX rfl ?_
   refine ag3 rfl ?_
   refine agX rfl ?_
   refine agW (IJ rfl rfl rfl) rfl ?_
   refine agb rfl rfl rfl<|pq ?_
   refine W.bC rfl (fun c26=>?_) (fun c26=>?_)
   ·refine W.exit<|bP<|Tt<|bP<|Tt<|bP<|gG<|aA<|W.seq<|W.region rfl ?_
    refine qm rfl rfl rfl ?_
    refine ag1 rfl ?_
    refine agb rfl rfl rfl<|pq<|W.exit<|gG<|aA<|W.seq<|W.region rfl<|qm rfl rfl rfl<|agb rfl rfl rfl ?_
    refine pq<|W.ret ?_
    refine uZ ?_
    show I _=I _
    congr 1
    unfold awL
    simp only at*
    (repeat' split) <;>omega
   ·refine W.skip<|aA<|W.exit<|Tt<|bP<|Tt<|bP<|Tt<|bP<|gG ?_
    refine aA<|W.seq<|W.region rfl<|qm rfl rfl rfl<|agb rfl rfl rfl<|pq<|W.ret ?_
    refine uZ ?_
    show I _=I _
    congr 1
    unfold awL
    simp only at*
    (repeat' split) <;>omega
end Go.aS

/- Groups of truths: how thick a pan is. Conditions: none; over the given program. -/
namespace Go.aS
set_option maxRecDepth 100000
set_option maxHeartbeats 4000000
def ayp(k:List Int)(l:List Spn)(n:Int):Array Value:= #[I (k.getD 0 0),I (k.getD 1 0),I (k.getD 2 0),I (k.getD 3 0),I (k.getD 4 0),I (l.getD 0 ⟨0,0⟩).lo,I (l.getD 0 ⟨0,0⟩).hi,I (l.getD 1 ⟨0,0⟩).lo,I (l.getD 1 ⟨0,0⟩).hi,I (l.getD 2 ⟨0,0⟩).lo,I (l.getD 2 ⟨0,0⟩).hi,I n]
abbrev aIt(k:List Int)(l:List Spn)(n:Int):Value:=.agg (ayp k l n)
theorem Sb.eq{A B:eG}(h:A=B):Sb A B:=h▸ .refl
theorem five{k:List Int}(hk:k.length=5):∃a b c d e,k=[a,b,c,d,e]:=by
 rcases k with _ | ⟨a,_ | ⟨b,_ | ⟨c,_ | ⟨d,_ | ⟨e,_ | ⟨f,k⟩⟩⟩⟩⟩⟩ <;>simp at hk
 exact⟨a,b,c,d,e,rfl⟩
theorem three{l:List Spn}(h:l.length=3):∃a b c,l=[a,b,c]:=by
 rcases l with _ | ⟨a,_ | ⟨b,_ | ⟨c,_ | ⟨d,l⟩⟩⟩⟩ <;>simp at h
 exact⟨a,b,c,rfl⟩
theorem aFd{k:List Int}{l:List Spn}{n:Int}(hk:k.length=5):(ayp k l n).extract 0 (0+5)=(k.map nI).toArray:=by
 obtain⟨a,b,c,d,e,rfl⟩:=five hk
 rfl
theorem aHR{k:List Int}{l:List Spn}{n:Int}{i:Nat}(hi:i<3):(ayp k l n).extract (0+5+i*2) (0+5+i*2+2)= #[I (l.getD i ⟨0,0⟩).lo,I (l.getD i ⟨0,0⟩).hi]:=by
 have:i=0∨i=1∨i=2:=by omega
 rcases this with rfl | rfl | rfl <;>rfl
theorem aKg{k:List Int}{l:List Spn}{n:Int}{i:Nat}(hi:i<3):(ayp k l n)[0+5+i*2+0]? =some (I (l.getD i ⟨0,0⟩).lo):=by
 have:i=0∨i=1∨i=2:=by omega
 rcases this with rfl | rfl | rfl <;>rfl
theorem aKh{k:List Int}{l:List Spn}{n:Int}{i:Nat}(hi:i<3):(ayp k l n)[0+5+i*2+1]? =some (I (l.getD i ⟨0,0⟩).hi):=by
 have:i=0∨i=1∨i=2:=by omega
 rcases this with rfl | rfl | rfl <;>rfl
theorem aJt{k:List Int}{l:List Spn}{n:Int}{i:Nat}{s:Spn}(hl:l.length=3)(hi:i<3):jv (ayp k l n) (0+5+i*2) [I s.lo,I s.hi]=ayp k (l.set i s) n:=by
 obtain⟨a,b,c,rfl⟩:=three hl
 have:i=0∨i=1∨i=2:=by omega
 rcases this with rfl | rfl | rfl <;>rfl

theorem aIH(main:Side)(h:Hp)(b β:Nat)(vs vr vm vh vp:Value)(rs:List Int)(l:List Spn)(n:Int)(k:List Int)(Jq t:Nat)(hb:h b=some (awQ vs vr vm vh vp β))(hr:Sl h fH vr rs)(hr1:∀r∈rs,1≤r∧r≤3)(aGd:Jq<rs.length)(hp3:rs.length≤3)(hs: -2000000≤(l.getD Jq ⟨0,0⟩).lo∧(l.getD Jq ⟨0,0⟩).lo≤2000000∧-2000000≤(l.getD Jq ⟨0,0⟩).hi∧(l.getD Jq ⟨0,0⟩).hi≤2000000)(hk:k.length=5)(ht:t≤5)(hb4:∀a∈k,0≤a∧a≤4):
  Pu prog main ayk #[bI b,aIt k l n,I Jq,I t] h (Spn.val ⟨(l.getD Jq ⟨0,0⟩).lo+aw_ rs k Jq t,(l.getD Jq ⟨0,0⟩).hi+aw_ rs k Jq t⟩):=by
 have hadd:=fun h' (hE:Ext h h')=>aHQ main h' b β vs vr vm vh vp rs k Jq t (hE.1 _ _ hb) (hr.ext hE) hr1 aGd hk ht hb4
 have hm:=aAU (Jq:=Jq) (t:=t) hr1 hb4 ht
 have hsz:(ayp k l n).size=12:=rfl
 have hks:=aFd (l:=l) (n:=n) hk
 have hlo:=aKg (k:=k) (l:=l) (n:=n) (show Jq<3 by omega)
 have hhi:=aKh (k:=k) (l:=l) (n:=n) (show Jq<3 by omega)
 have hone:ones (ayp k l n).toList=true:=rfl
 show Pu prog main ayk #[bI b,.agg (ayp k l n),I Jq,I t] h _
 generalize ayp k l n=cs at*
 generalize aw_ rs k Jq t=m at*
 generalize(l.getD Jq ⟨0,0⟩).lo=x1 at*
 generalize(l.getD Jq ⟨0,0⟩).hi=x2 at*
 refine dV.aG aBB rfl (by show 4≤31;decide) [(0,bI b),(1,.agg cs),(2,I Jq),(3,I t)] ⟨rfl,rfl,rfl,rfl,trivial⟩ ?_
 refine W.seq<|W.region rfl ?_
 refine Ops.box (fun mZ=>?_)
 refine Ops.new (fun yD=>?_)
 refine pq<|W.seq ?_
 refine W.sb (F':=[(yD,.cells #[I 0,I 0] ayj (0,0)),(mZ,.cells cs GR (0,0))]) .refl ?_
 refine W.region rfl<|qm rfl rfl rfl ?_
 refine agY rfl ?_
 first | refine ag2 rfl ?_ | refine agW (ady rfl rfl) rfl ?_
 refine qm rfl rfl rfl<|qm rfl rfl rfl ?_
 refine cp (fun h' hE hL=>hadd h' hE) ?_
 refine agb rfl rfl rfl<|pq<|W.seq ?_
 refine W.DR [(mZ,.cells cs GR (0,0))] (n:=16) rfl ?_
 refine dn 0 (aN rfl rfl) rfl ?_
 refine dn 1 (ay rfl rfl) rfl ?_
 first | refine dn 2 (UN rfl rfl rfl) rfl ?_ | refine dn 2 (Qg rfl rfl rfl) rfl ?_
 refine dn 3 (ay rfl rfl) rfl ?_
 refine dn 4 (iQ rfl rfl) rfl ?_
 refine dn 5 (aN rfl rfl) rfl ?_
 first | refine dn 6 (Zi rfl rfl rfl) rfl ?_ | refine dn 6 (MZ rfl rfl rfl) rfl ?_
 refine dn 7 (aN rfl rfl) rfl ?_
 refine dn 8 (ay rfl rfl) rfl ?_
 first | refine dn 9 (UN rfl rfl rfl) rfl ?_ | refine dn 9 (Qg rfl rfl rfl) rfl ?_
 refine dn 10 (ay rfl rfl) rfl ?_
 refine dn 11 (iQ rfl rfl) rfl ?_
 refine dn 12 (aN rfl rfl) rfl ?_
 first | refine dn 13 (Zi rfl rfl rfl) rfl ?_ | refine dn 13 (MZ rfl rfl rfl) rfl ?_
 refine dn 14 (eH rfl rfl rfl) rfl ?_
 first | refine ae (i:=15) rfl an rfl rfl (eSW rfl rfl rfl ?_) | refine ae (i:=15) rfl an rfl rfl (eSA rfl rfl rfl ?_)
 refine⟨.inl (by kernel_rfl),?_⟩
 refine az ?_
 refine aA<|W.ret ?_
 exact QJ (hv:=D_ zJ) ⟨rfl,.cons rfl (.cons rfl .nil)⟩
end Go.aS

/- Groups of truths. Conditions: none; over the given program. -/
namespace Go.aS
set_option maxRecDepth 100000
set_option maxHeartbeats 400000
theorem aKi{k:List Int}{l:List Spn}(h1:1≤l.length)(h:l.length≤3):jv (ayp k [⟨0,0⟩,⟨0,0⟩,⟨0,0⟩] 1) 5 (flat Spn.row l)=ayp k (aG_ l) 1:=by
 rcases l with _ | ⟨a,_ | ⟨b,_ | ⟨c,_ | ⟨d,l⟩⟩⟩⟩
 ·simp at h1
 ·rfl
 ·rfl
 ·rfl
 ·simp at h
theorem aJu(main:Side)(h:Hp)(b β:Nat)(vs vr vm vh vp:Value)(B:Boi)(ok:BOK B)(k:List Int)(hb:h b=some (awQ vs vr vm vh vp β))(hB:aBp h vs vr vm vh vp B)(hk:k.length=5)(hb4:∀a∈k,0≤a∧a≤4):
  Pu prog main azD #[bI b,Y1 k,vp] h (aIt k (axX B k) (azh B k)):=by
 have hs3:=ok.s2
 have hp2:=ok.p2
 have hr1:=ok.r1
 have hh2:=ok.h2
 have hab:∀(j t:Nat),t≤5→0≤aw_ B.rs k j t∧aw_ B.rs k j t≤60:=fun j t ht=>aAU ok.rp hb4 ht
 obtain⟨a1,cap1,rfl⟩:=hB.sm.dA
 obtain⟨a5,cap5,rfl⟩:=hB.pm.dA
 have hkc:(Y1 k)= .agg #[I (k.getD 0 0),I (k.getD 1 0),I (k.getD 2 0),I (k.getD 3 0),I (k.getD 4 0)]:=by
  obtain⟨k0,k1,k2,k3,k4,rfl⟩:=five hk
  rfl
 have hadd:=fun h' (hE:Ext h h') (p:Prf) (hp:p∈B.ps)=>by
  have hpp:=ok.pp p hp
  have e1:p.Jq=((p.Jq.toNat:Nat):Int):=by omega
  have e2:p.tick=((p.tick.toNat:Nat):Int):=by omega
  have:=aHQ main h' b β _ vr vm vh _ B.rs k p.Jq.toNat p.tick.toNat (hE.1 _ _ hb) (hB.rm.ext hE) ok.rp (by omega) hk (by omega) hb4
  rw[←e1,←e2,hkc]at this
  exact this
 have aL8:=fun h' (hE:Ext h h') (p:Prf) (hp:p∈B.ps)=>by
  have hpp:=ok.pp p hp
  have e1:p.th=((p.th.toNat:Nat):Int):=by omega
  have:=aJs main h' b β _ vr vm vh _ B.ms p.th.toNat (hE.1 _ _ hb) (hB.mm.ext hE) ok.mp (by omega)
  rw[←e1]at this
  exact this
 rw[hkc]
 refine dV.aG aBR rfl (by show 3≤80;decide) [(0,bI b),(1,.agg #[I (k.getD 0 0),I (k.getD 1 0),I (k.getD 2 0),I (k.getD 3 0),I (k.getD 4 0)]),(2,.slice a5 B.ps.length cap5)] ⟨rfl,rfl,rfl,trivial⟩ ?_
 refine W.seq<|W.region rfl ?_
 refine Ops.box (fun wC=>?_)
 refine Ops.new (fun yC=>?_)
 refine pq<|W.seq<|W.region rfl ?_
 first | refine ag2 rfl ?_ | refine agW (ady rfl rfl) rfl ?_
 refine agW (eH (cs:=ayp k [⟨0,0⟩,⟨0,0⟩,⟨0,0⟩] 1) rfl rfl (by kernel_rfl)) rfl ?_
 refine Ops.new (fun Vo=>?_)
 first | refine Ops.jP ?_ | refine Ops.nY ?_
 refine pq<|W.seq ?_
 refine W.DR [] (n:=8) rfl ?_
 refine dn 0 (ay rfl rfl) rfl ?_
 refine dn 1 (aCE rfl rfl) rfl ?_
 refine dn 2 (aN rfl rfl) rfl ?_
 first | refine dn 3 (bg rfl rfl) rfl ?_ | refine dn 3 (aT rfl rfl) rfl ?_
 refine dn 4 (ay rfl rfl) rfl ?_
 refine dn 5 (ay rfl rfl) rfl ?_
 refine dn 6 (iQ rfl rfl) rfl ?_
 refine ae (i:=7) rfl an rfl rfl (avI (row:=Spn.row) (l:=B.ss) rfl rfl rfl hB.sm (by omega) At.head (by show 5+B.ss.length*2≤12;omega) ?_)
 refine⟨.inr Keeps.nil,?_⟩
 refine az ?_
 refine aA<|W.seq<|W.seq<|W.region rfl<|qm rfl rfl rfl ?_
 refine agW (dM rfl rfl) rfl ?_
 refine qm rfl rfl rfl<|pq<|W.block ?_
 refine W.sb (F':=[(Vo,.cells (ayp k (aCZ B k 0) 1) GR (0,0)),(yC,.cells #[I 0,I 0,I 0,I 0,I 0,I 0,I 0,I 0,I 0,I 0,I 0,I 0] GR (0,0)),(wC,.cells #[I (k.getD 0 0),I (k.getD 1 0),I (k.getD 2 0),I (k.getD 3 0),I (k.getD 4 0)] Pn (0,0))]) (.eq ?_) ?_
 ·exact congrArg (fun c=>[(Vo,Obj.cells c GR (0,0)),(yC,.cells #[I 0,I 0,I 0,I 0,I 0,I 0,I 0,I 0,I 0,I 0,I 0,I 0] GR (0,0)),(wC,.cells #[I (k.getD 0 0),I (k.getD 1 0),I (k.getD 2 0),I (k.getD 3 0),I (k.getD 4 0)] Pn (0,0))]) (aKi ok.s1 hs3).symm
 refine W.loop (σ:=Nat) (fun i=>i≤B.ps.length) (fun i=>[(25,I i),(24,I B.ps.length),(23,.slice a5 B.ps.length cap5),(0,bI b),(4,bI wC),(6,bI yC),(7,bI Vo)]) (fun i=>[(Vo,.cells (ayp k (aCZ B k i) 1) GR (0,0)),(yC,.cells #[I 0,I 0,I 0,I 0,I 0,I 0,I 0,I 0,I 0,I 0,I 0,I 0] GR (0,0)),(wC,.cells #[I (k.getD 0 0),I (k.getD 1 0),I (k.getD 2 0),I (k.getD 3 0),I (k.getD 4 0)] Pn (0,0))]) (fun i=>B.ps.length-i) 0 (Nat.zero_le _) ⟨rfl,rfl,rfl,rfl,rfl,rfl,rfl,trivial⟩ .refl ?_
 rintro i hi
 refine W.seq<|W.region rfl ?_
 refine agW (fO rfl rfl rfl) rfl ?_
 refine pq<|W.seq ?_
 refine W.bC rfl (fun c26=>?_) (fun c26=>?_)
 ·obtain⟨p,hp,-⟩:=has (show i<B.ps.length by omega)
  have hpm:=List.mem_of_getElem? hp
  have hpp:=ok.pp p hpm
  obtain⟨bp,off,c,E,fz,e3,hbp,hx,hy,hz⟩:=hB.pm.at hp
  cases e3
  have hx':c.extract (off+i*3) (off+i*3+3)= #[I p.Jq,I p.tick,I p.th]:=hx
  clear hx hz
  refine W.skip<|aA<|W.seq<|W.block<|W.seq<|W.region rfl ?_
  refine ag3 rfl ?_
  first | refine ag2 rfl ?_ | refine agW (ady rfl rfl) rfl ?_
  refine Ops.new (fun Uw=>?_)
  first | refine Ops.jP ?_ | refine Ops.nY ?_
  refine pq<|W.seq ?_
  refine W.mono (Q:=(fun e ρ' ds' F'=>e= .normal∧ds'=[]∧∃Oj,Sub [(11,I (aw_ B.rs k p.Jq.toNat p.tick.toNat)),(10,bI Oj),(9,bI Uw),(25,I i),(24,I B.ps.length),(23,.slice (some ⟨bp,off,none⟩) B.ps.length cap5),(0,bI b),(4,bI wC),(6,bI yC),(7,bI Vo)] ρ'∧Sb ((Oj,.cells #[I (azu B.ms p.th.toNat).lo,I (azu B.ms p.th.toNat).hi] ayj (0,0))::(Uw,.cells #[I p.Jq,I p.tick,I p.th] aB3 (0,0))::[(Vo,.cells (ayp k (aCZ B k i) 1) GR (0,0)),(yC,.cells #[I 0,I 0,I 0,I 0,I 0,I 0,I 0,I 0,I 0,I 0,I 0,I 0] GR (0,0)),(wC,.cells #[I (k.getD 0 0),I (k.getD 1 0),I (k.getD 2 0),I (k.getD 3 0),I (k.getD 4 0)] Pn (0,0))]) F')) ?_ ?_
  ·refine W.DR [(Uw,.cells #[I p.Jq,I p.tick,I p.th] aB3 (0,0)),(wC,.cells #[I (k.getD 0 0),I (k.getD 1 0),I (k.getD 2 0),I (k.getD 3 0),I (k.getD 4 0)] Pn (0,0))] (n:=14) rfl ?_
   refine dn 0 (aN rfl rfl) rfl ?_
   refine dn 1 (ay rfl rfl) rfl ?_
   refine dn 2 (iQ rfl rfl) rfl ?_
   refine dn 4 (aN rfl rfl) rfl ?_
   first | refine dn 5 (Bf rfl rfl) rfl ?_ | refine dn 5 (zi rfl rfl) rfl ?_
   refine dn 6 (ay rfl rfl) rfl ?_
   refine dn 7 (iQ rfl rfl) rfl ?_
   refine dn 8 (ay rfl rfl) rfl ?_
   refine dn 9 (iQ rfl rfl) rfl ?_
   refine Any.WB (i:=3) (j:=11) (by kernel_rfl) (aU rfl) (aU rfl) an an rfl rfl rfl rfl ?_ ?_
   ·refine(lQ (args:=[_,_]) rfl rfl (fun h' hE hL=>aL8 h' hE p hpm) (fun v A' hv=>?_))
    obtain⟨rfl,hA⟩:=hv
    refine⟨.inr (Keeps.app (by repeat(first | exact Keeps.nil | refine Keeps.one (by repeat(first | exact List.Mem.head _ | apply List.Mem.tail)) ?_))),?_⟩
    refine Any.sb (Sb.left .refl hA) ?_
    refine Any.WB (i:=10) (j:=11) (by kernel_rfl) (aU rfl) (aU rfl) an an rfl rfl rfl rfl ?_ ?_
    ·refine(lQ (args:=[_,_,_,_]) rfl rfl (fun h' hE hL=>hadd h' hE p hpm) (fun v A' hv=>?_))
     obtain⟨rfl,hA⟩:=hv
     refine⟨.inr (Keeps.app (by repeat(first | exact Keeps.nil | refine Keeps.one (by repeat(first | exact List.Mem.head _ | apply List.Mem.tail)) ?_))),?_⟩
     refine Any.sb (Sb.left .refl hA) ?_
     refine ae (i:=11) rfl an rfl rfl (eN rfl (fun Oj=>?_))
     refine⟨.inr (by repeat(first | exact Keeps.nil | refine Keeps.one (by repeat(first | exact List.Mem.head _ | apply List.Mem.tail)) ?_)),?_⟩
     refine ae (i:=12) rfl an rfl rfl (eSW rfl rfl rfl ?_)
     refine⟨.inr (by repeat(first | exact Keeps.nil | refine Keeps.one (by repeat(first | exact List.Mem.head _ | apply List.Mem.tail)) ?_)),?_⟩
     refine dn 13 (jS rfl rfl) rfl ?_
     refine az ?_
     exact⟨rfl,rfl,Oj,⟨rfl,rfl,rfl,rfl,rfl,rfl,rfl,rfl,rfl,rfl,trivial⟩,.refl⟩
    ·refine(eN rfl (fun Oj=>?_))
     refine⟨.inr (by repeat(first | exact Keeps.nil | refine Keeps.one (by repeat(first | exact List.Mem.head _ | apply List.Mem.tail)) ?_)),?_⟩
     refine ae (i:=10) rfl an rfl rfl (lQ (args:=[_,_,_,_]) rfl rfl (fun h' hE hL=>hadd h' hE p hpm) (fun v A' hv=>?_))
     obtain⟨rfl,hA⟩:=hv
     refine⟨.inr (Keeps.app (by repeat(first | exact Keeps.nil | refine Keeps.one (by repeat(first | exact List.Mem.head _ | apply List.Mem.tail)) ?_))),?_⟩
     refine Any.sb (Sb.left .refl hA) ?_
     refine ae (i:=12) rfl an rfl rfl (eSW rfl rfl rfl ?_)
     refine⟨.inr (by repeat(first | exact Keeps.nil | refine Keeps.one (by repeat(first | exact List.Mem.head _ | apply List.Mem.tail)) ?_)),?_⟩
     refine dn 13 (jS rfl rfl) rfl ?_
     refine az ?_
     exact⟨rfl,rfl,Oj,⟨rfl,rfl,rfl,rfl,rfl,rfl,rfl,rfl,rfl,rfl,trivial⟩,.refl⟩
   ·refine(eN rfl (fun Oj=>?_))
    refine⟨.inr (by repeat(first | exact Keeps.nil | refine Keeps.one (by repeat(first | exact List.Mem.head _ | apply List.Mem.tail)) ?_)),?_⟩
    refine ae (i:=3) rfl an rfl rfl (lQ (args:=[_,_]) rfl rfl (fun h' hE hL=>aL8 h' hE p hpm) (fun v A' hv=>?_))
    obtain⟨rfl,hA⟩:=hv
    refine⟨.inr (Keeps.app (by repeat(first | exact Keeps.nil | refine Keeps.one (by repeat(first | exact List.Mem.head _ | apply List.Mem.tail)) ?_))),?_⟩
    refine Any.sb (Sb.left .refl hA) ?_
    refine ae (i:=10) rfl an rfl rfl (lQ (args:=[_,_,_,_]) rfl rfl (fun h' hE hL=>hadd h' hE p hpm) (fun v A' hv=>?_))
    obtain⟨rfl,hA⟩:=hv
    refine⟨.inr (Keeps.app (by repeat(first | exact Keeps.nil | refine Keeps.one (by repeat(first | exact List.Mem.head _ | apply List.Mem.tail)) ?_))),?_⟩
    refine Any.sb (Sb.left .refl hA) ?_
    refine ae (i:=12) rfl an rfl rfl (eSW rfl rfl rfl ?_)
    refine⟨.inr (by repeat(first | exact Keeps.nil | refine Keeps.one (by repeat(first | exact List.Mem.head _ | apply List.Mem.tail)) ?_)),?_⟩
    refine dn 13 (jS rfl rfl) rfl ?_
    refine az ?_
    exact⟨rfl,rfl,Oj,⟨rfl,rfl,rfl,rfl,rfl,rfl,rfl,rfl,rfl,rfl,trivial⟩,.refl⟩
  rintro e ρ' ds' F' ⟨rfl,rfl,Oj,hE0,hsb⟩
  refine aA (W.env hE0 (W.sb hsb ?_))
  have hl3:=aJr (B:=B) (k:=k) (i:=i) hs3
  have hst:=aHR (k:=k) (l:=aCZ B k i) (n:=1) (i:=p.Jq.toNat) (by omega)
  have hgs:(ayp k (aCZ B k i) 1).size=12:=rfl
  have hmb:=aGM ok.mp (t:=p.th.toNat) (by omega)
  have hab':=hab p.Jq.toNat p.tick.toNat (by omega)
  refine W.aIP (n:=20) rfl ?_
  refine dn 0 (ay rfl rfl) rfl ?_
  refine dn 1 (iQ rfl rfl) rfl ?_
  refine dn 2 (ay rfl rfl) rfl ?_
  refine dn 3 (iQ rfl rfl) rfl ?_
  refine dn 4 (ay rfl rfl) rfl ?_
  first | refine dn 5 (UN rfl rfl rfl) rfl ?_ | refine dn 5 (Qg rfl rfl rfl) rfl ?_
  first | refine dn 6 (Bf rfl rfl) rfl ?_ | refine dn 6 (zi rfl rfl) rfl ?_ | refine dn 6 (ady rfl rfl) rfl ?_
  refine dn 7 (ay rfl rfl) rfl ?_
  refine dn 8 (iQ rfl rfl) rfl ?_
  refine dn 9 (aN rfl rfl) rfl ?_
  first | refine dn 10 (acL rfl rfl rfl) rfl ?_ | refine dn 10 (M_ rfl rfl rfl) rfl ?_
  refine dn 11 (ay rfl rfl) rfl ?_
  refine dn 12 (iQ rfl rfl) rfl ?_
  refine dn 13 (aN rfl rfl) rfl ?_
  first | refine dn 14 (acL rfl rfl rfl) rfl ?_ | refine dn 14 (M_ rfl rfl rfl) rfl ?_
  refine dn 15 (eH rfl rfl rfl) rfl ?_
  refine dn 17 (ay rfl rfl) rfl ?_
  refine Va (i:=16) (fun h' hE hL=>aKf _ h' ((aCZ B k i).getD p.Jq.toNat ⟨0,0⟩) ⟨(azu B.ms p.th.toNat).lo-aw_ B.rs k p.Jq.toNat p.tick.toNat,(azu B.ms p.th.toNat).hi-aw_ B.rs k p.Jq.toNat p.tick.toNat⟩) ?_ (hS:=.inr (by repeat(first | exact Keeps.nil | refine Keeps.one (by repeat(first | exact List.Mem.head _ | apply List.Mem.tail)) ?_)))
  first | refine dn 18 (UN rfl rfl rfl) rfl ?_ | refine dn 18 (Qg rfl rfl rfl) rfl ?_
  first | refine ae (i:=19) rfl an rfl rfl (eSW rfl rfl rfl ?_) | refine ae (i:=19) rfl an rfl rfl (eSA rfl rfl rfl ?_)
  refine⟨.inl (by kernel_rfl),?_⟩
  refine az ?_
  refine dI<|aA<|W.region rfl ?_
  refine ag1 rfl ?_
  refine qm rfl rfl rfl<|pq ?_
  refine⟨rfl,i+1,by omega,by omega,⟨rfl,rfl,rfl,rfl,rfl,rfl,rfl,trivial⟩,?_⟩
  rw[aFD hp]
  exact Sb.trans (.eq (congrArg (fun c=>[(Vo,Obj.cells c GR (0,0)),(yC,.cells #[I 0,I 0,I 0,I 0,I 0,I 0,I 0,I 0,I 0,I 0,I 0,I 0] GR (0,0)),(wC,.cells #[I (k.getD 0 0),I (k.getD 1 0),I (k.getD 2 0),I (k.getD 3 0),I (k.getD 4 0)] Pn (0,0))]) (aJt (s:=aGK ((aCZ B k i).getD p.Jq.toNat ⟨0,0⟩) ⟨(azu B.ms p.th.toNat).lo-aw_ B.rs k p.Jq.toNat p.tick.toNat,(azu B.ms p.th.toNat).hi-aw_ B.rs k p.Jq.toNat p.tick.toNat⟩) hl3 (show p.Jq.toNat<3 by omega)).symm)) (.skip rfl (.skip rfl .refl))
 ·obtain rfl:i=B.ps.length:=by omega
  rw[aEb]
  have hl3:=aJq (B:=B) (k:=k) hs3
  have hsl:SpL (axX B k):=by rw[←aEb];exact aFH ok hab (Nat.le_refl _)
  refine W.exit<|bP<|bP<|gG<|aA<|W.seq<|W.seq<|W.region rfl<|qm rfl rfl rfl ?_
  refine ag4 rfl ?_
  refine agY rfl ?_
  refine agY rfl ?_
  refine agX rfl ?_
  refine agW (dM rfl rfl) rfl ?_
  refine qm rfl rfl rfl<|pq<|W.block ?_
  refine W.loop (σ:=Nat) (fun j=>j≤B.ss.length) (fun j=>[(66,I j),(65,I B.ss.length),(6,bI yC),(7,bI Vo)]) (fun j=>[(Vo,.cells (ayp k (axX B k) (aDr (axX B k) j)) GR (0,0)),(yC,.cells #[I 0,I 0,I 0,I 0,I 0,I 0,I 0,I 0,I 0,I 0,I 0,I 0] GR (0,0))]) (fun j=>B.ss.length-j) 0 (Nat.zero_le _) ⟨rfl,rfl,rfl,rfl,trivial⟩ (.cons (.cons (.skip rfl .refl))) ?_
  rintro j hj
  refine W.seq<|W.region rfl ?_
  refine agW (fO rfl rfl rfl) rfl ?_
  refine pq<|W.seq ?_
  refine W.bC rfl (fun c67=>?_) (fun c67=>?_)
  ·obtain⟨s,hs,-⟩:=has (show j<(axX B k).length by omega)
   have hsb:=hsl s (List.mem_of_getElem? hs)
   have hst:=aHR (k:=k) (l:=axX B k) (n:=aDr (axX B k) j) (i:=j) (by omega)
   rw[show(axX B k).getD j ⟨0,0⟩=s by rw[List.getD_eq_getElem?_getD,hs];rfl]at hst
   have hgs:(ayp k (axX B k) (aDr (axX B k) j)).size=12:=rfl
   have hz1:=aF7 hsl (n:=j) (by omega)
   have hz2:=aF7 hsl (n:=j+1) (by omega)
   rw[aDJ hs]at hz2
   have hz3:(41:Int) ^ (j+1)≤68921:=by
    have:j=0∨j=1∨j=2:=by omega
    rcases this with rfl | rfl | rfl <;>decide
   refine W.skip<|aA<|W.seq<|W.block<|W.seq<|W.region rfl<|qm rfl rfl rfl<|agb rfl rfl rfl<|pq ?_
   refine W.aG8 (n:=10) rfl ?_
   refine dn 0 (ay rfl rfl) rfl ?_
   refine dn 1 (iQ rfl rfl) rfl ?_
   refine dn 2 (aN rfl rfl) rfl ?_
   refine dn 3 (ay rfl rfl) rfl ?_
   first | refine dn 4 (UN rfl rfl rfl) rfl ?_ | refine dn 4 (Qg rfl rfl rfl) rfl ?_
   first | refine dn 5 (Bf rfl rfl) rfl ?_ | refine dn 5 (zi rfl rfl) rfl ?_ | refine dn 5 (ady rfl rfl) rfl ?_
   refine Va (i:=6) (fun h' hE hL=>aHu _ h' s hsb) ?_ (hS:=.inr (by repeat(first | exact Keeps.nil | refine Keeps.one (by repeat(first | exact List.Mem.head _ | apply List.Mem.tail)) ?_)))
   refine dn 7 (aaC rfl rfl rfl (by omega) (by omega)) rfl ?_
   refine dn 8 (ay rfl rfl) rfl ?_
   refine ae (i:=9) rfl an rfl rfl (eS rfl rfl rfl ?_)
   refine⟨.inl (by kernel_rfl),?_⟩
   refine az ?_
   refine dI<|aA<|W.region rfl ?_
   refine ag1 rfl ?_
   refine qm rfl rfl rfl<|pq ?_
   refine⟨rfl,j+1,by omega,by omega,⟨rfl,rfl,rfl,rfl,trivial⟩,?_⟩
   rw[aDJ hs]
   exact .refl
  ·obtain rfl:j=B.ss.length:=by omega
   refine W.exit<|bP<|bP<|gG<|aA<|W.seq<|W.region rfl ?_
   first | refine ag2 rfl ?_ | refine agW (ady rfl rfl) rfl ?_
   first | refine Ops.jP ?_ | refine Ops.nY ?_
   refine pq<|W.ret ?_
   exact QJ (hv:=D_ zJ) ⟨rfl,.cons rfl (.cons rfl .nil)⟩
end Go.aS

/- A scope with a label to which the text goes back; arrays of bools beside each other. Conditions: none; over any program. -/
namespace Go.aS
section
variable{K:Env→List Deferred→eG→Prop}{Q:Post}{ρ:Env}{ds:List Deferred}{F:eG}{l:Nat}
end
/-! ### Arrays of bools. -/
section
variable{x:Cx}{ρ:Env}{S:eG→Prop}{o:Oper}
end
end Go.aS

/- Queues: slices of one's own that begin somewhere in their block; maps whose keys are ints. Conditions: none; over any program. -/
namespace Go.aS
section
variable{α:Type}{row:α→List Value}{w:Nat}[rw':Rw row w]
def Oq(E:TypeId)(row:α→List Value)[Rw row w](v:Value)(l:List α)(A:eG):Prop:=
 (l=[]∧v= .slice none 0 0∧Shut A)∨∃β c o cap J,v= .slice (some ⟨β,o,none⟩) l.length cap∧A=(β,.cells c E (0,0))::J∧o+cap*w≤c.size∧l.length≤cap∧Part c o (flat row l)∧Shut J
theorem Oq.shut{E:TypeId}{v:Value}{l:List α}{A:eG}(H:Oq E row v l A):Shut A:=by
 rcases H with⟨_,_,h⟩ | ⟨β,c,o,cap,J,_,rfl,_,_,_,h⟩
 ·exact h
 ·exact .cons rfl h
end
section rules
variable{x:Cx}{ρ:Env}{F:eG}{S:eG→Prop}{o:Oper}{R:Value→eG→Prop}
section
variable{α:Type}{row:α→List Value}{w:Nat}[rw':Rw row w]
end
end rules
end Go.aS

/- Maps whose keys are ints. Conditions: none; over any program. -/
namespace Go.aS
def ER(es:Array MapEntry)(f:Int→Option Value):Prop:=∃m:List (Int×Value),es.toList.map (fun e=>(e.key,e.val))=m.map (fun p=>(nI p.1,p.2))∧(m.map (·.1)).Nodup∧∀x,m.lookup x=f x
theorem ER.nil:ER #[] fun _=>none:=⟨[],rfl,List.nodup_nil,fun _=>rfl⟩

section
variable{P:Program}{h:Hp}{F:eG}{β:Type}{Q:β→eG→Prop}{t:Nat}
end
section rules
variable{x:Cx}{ρ:Env}{F:eG}{S:eG→Prop}{o:Oper}{R:Value→eG→Prop}
end rules
end Go.aS

/- Iterators whose elements lie in blocks of their own: what is handed out is read while it is lent, and may be kept where the iterator ends. Conditions: none; over any program. -/
namespace Go.aS
def Vw(P:Program)(main:Side)(yv:Value)(h:Hp){X:Type}(Val:X→Value→eG→Prop)(xs:List X)(J:Nat→eG→Prop)(K:Nat→Value→eG→Prop):Prop:=
 ∀h',Ext h h'→∀k x v S A,xs[k]? =some x→Val x v S→fF S h'→J k A→gZ P main yv [v] h' A fun r A'=>(r= .bool true∧∃B,J (k+1) B∧Sb B A')∨(r= .bool false∧∃B,K k v B∧Sb B A')
def adE{X:Type}(Val:X→Value→eG→Prop)(xs:List X)(J:Nat→eG→Prop)(K:Nat→Value→eG→Prop)(A':eG):Prop:=
 (∃B,J xs.length B∧Sb B A')∨∃k x v S B,xs[k]? =some x∧Val x v S∧K k v B∧Sb (B++S) A'
def Me(P:Program)(main:Side)(fv:Value){X:Type}(Val:X→Value→eG→Prop)(xs:List X)(h:Hp):Prop:=
 ∀h',Ext h h'→∀(yv:Value),one yv=true→∀(J:Nat→eG→Prop) (K:Nat→Value→eG→Prop),Vw P main yv h' Val xs J K→∀A,J 0 A→gZ P main fv [yv] h' A fun _ A'=>adE Val xs J K A'
theorem Vw.ext{P:Program}{main:Side}{yv:Value}{h h':Hp}{X:Type}{Val:X→Value→eG→Prop}{xs:List X}{J:Nat→eG→Prop}{K:Nat→Value→eG→Prop}(H:Vw P main yv h Val xs J K)(e:Ext h h'):Vw P main yv h' Val xs J K:=
 fun h'' e'=>H h'' (e.trans e')
theorem Me.ext{P:Program}{main:Side}{fv:Value}{X:Type}{Val:X→Value→eG→Prop}{xs:List X}{h h':Hp}(H:Me P main fv Val xs h)(e:Ext h h'):Me P main fv Val xs h':=
 fun h'' e'=>H h'' (e.trans e')

theorem W.abV{x:Cx}{Q:Post}{ρ:Env}{ds:List Deferred}{F:eG}{f:Operand}{t:Tmp}{us bd:Code}{fv:Value}{X:Type}{Val:X→Value→eG→Prop}{xs:List X}(hf:ev ρ f=some fv)(hro:x.ro=none)(ht:Nat.blt t x.n=true)
  (D:Nat→eG→Prop) (DX:Nat→Value→Exit→eG→Prop) {A₀:eG} {g_:eG→eG} (hs:Seg A₀ F g_) (h0:D 0 A₀)
  (hi:∀h',Ext x.h h'→fF (g_ []) h'→Me x.P x.main fv Val xs h')
  (
   body:∀k p v S A,xs[k]? =some p→Val p v S→D k A→∀l h',Ext x.h h'→fF (g_ []) h'→fF S h'→W {x with ro:=some l,h:=h'} us (fun e xP xQ qp=>e= .normal∧xQ=[]∧∀h',Ext x.h h'→fF (g_ []) h'→fF S h'→
   W {x with ro:=some l,h:=h'} bd (fun e _ ds₂ kP=>ds₂=[]∧((e= .normal∧∃B,D (k+1) B∧Sb B kP)∨((tK e).isSome=true∧∃B,DX k v e B∧Sb B kP))) xP [] qp) ((t,v)::ρ) [] A)
  (after:∀A,D xs.length A→∀d,Q .normal ρ (mark d::ds) ((d,.deferred (some []))::g_ A))
  (afterX:∀k p v S e B,xs[k]? =some p→Val p v S→DX k v e B→∀d,Q e ρ (mark d::ds) ((d,.deferred (some []))::g_ (B++S))):W x (.rangeFunc f #[t] us bd) Q ρ ds F:=by
 refine W.rangeFunc hf hro fun tmps hρ hsz l d=>?_
 let L (s:LoopState) (pd:Option Code):Obj:=.loop {state:=s,pending:=pd,fn:=x.fn,tmps,params:= #[t],assign:=us,body:=bd,defers:=d}
 let J:Nat→eG→Prop:=fun k A=>∃B,D k B∧A=B++[(l,L .ready none)]
 let K:Nat→Value→eG→Prop:=fun k v A=>∃B e c,DX k v e B∧tK e=some c∧A=B++[(l,L .done (some c))]
 refine⟨A₀++[(l,L .ready none)],(d,.deferred (some []))::g_ [],fun _ A'=>adE Val xs J K A',?_,?_,?_⟩
 ·refine(List.perm_append_comm.append_right _).trans ?_
  refine List.Perm.cons _ ?_
  exact List.perm_middle.trans (hs.perm.1.cons _)
 ·intro h' e1 e2
  have e3:fF (g_ []) h':=fun b o hb=>e2 b o (List.mem_cons_of_mem _ hb)
  refine hi h' e1 e3 h' ⟨fun _ _ z=>z,fun _ z=>z⟩ _ rfl J K ?_ _ ⟨A₀,h0,rfl⟩
  rintro h'' e4 k p v S A hp hV hS ⟨B,hB,rfl⟩
  have hE:Ext x.h h'':=e1.trans e4
  have hL:fF (g_ []) h'':=fun b o hb=>e4.1 _ _ (e3 b o hb)
  refine⟨_,_,_,rfl,?_⟩
  simp only[invoke,Instr.yield,Instr.getLoop,bind_eq,gq,bind_assoc]
  refine⟨L .ready none,.inr (List.mem_append_right _ (List.mem_cons_self ..)),(fun _ _ _=>by simp[L]),rfl,?_⟩
  have ez:Array.foldl (fun(tmps:Array Value) (x:Tmp×Value)=>tmps.setIfInBounds x.1 x.2) tmps (#[t].zip #[v])=tmps.setIfInBounds t v:=by simp
  show ni x.P x.main h'' _ (.round l x.fn (Array.foldl (fun(tmps:Array Value) (x:Tmp×Value)=>tmps.setIfInBounds x.1 x.2) tmps (#[t].zip #[v])) us bd) _
  rw[ez]
  have hlt:t<tmps.size:=by rw[hsz];exact Nat.le_of_ble_eq_true ht
  have WG:dQ ((t,v)::ρ) (tmps.setIfInBounds t v):=hρ.put hlt _
  have hsz':(tmps.setIfInBounds t v).size=x.n:=by simpa using hsz
  show Rnd x.P x.main l x.fn (tmps.setIfInBounds t v) us bd h'' _ _
  refine Rnd.aG _ WG ?_
  rw[hsz']
  refine(W.frame (x:={x with ro:=some l,h:=h''}) fun h₃ e5 _=>body k p v S B hp hV hB l h₃ (hE.trans e5) (fun b o hb=>e5.1 _ _ (hL b o hb)) (fun b o hb=>e5.1 _ _ (hS b o hb))).mono ?_
  rintro e xP xQ qp ⟨A',⟨rfl,rfl,hbd⟩,rfl⟩
  refine⟨rfl,rfl,?_⟩
  simp only[Instr.beginRound,Instr.getLoop,bind_eq,gq,bind_assoc]
  refine⟨L .ready none,.inr (List.mem_append_right _ (List.mem_cons_self ..)),(fun _ _ _=>by simp[L]),rfl,?_⟩
  refine⟨L .ready none,A',[],rfl,(fun _ _ _=>by simp[L]),rfl,?_⟩
  show W _ _ _ _ _ (A'++[(l,L .busy none)])
  refine(W.frame (x:={x with ro:=some l,h:=h''}) fun h₃ e5 _=>hbd h₃ (hE.trans e5) (fun b o hb=>e5.1 _ _ (hL b o hb)) (fun b o hb=>e5.1 _ _ (hS b o hb))).mono ?_
  rintro e tC ds₂ kP ⟨A₂,⟨rfl,hcase⟩,rfl⟩
  rcases hcase with⟨rfl,Bg,BO,hsb⟩ | ⟨hj,Bg,BO,hsb⟩
  ·refine⟨rfl,none,rfl,?_⟩
   simp only[Instr.endRound,Instr.getLoop,bind_eq,gq,bind_assoc]
   refine⟨L .busy none,.inr (List.mem_append_right _ (List.mem_cons_self ..)),(fun _ _ _=>by simp[L]),rfl,?_⟩
   refine⟨L .busy none,A₂,[],rfl,(fun _ _ _=>by simp[L]),rfl,?_⟩
   exact .inl ⟨rfl,Bg++[(l,L .ready none)],⟨Bg,BO,rfl⟩,hsb.app .refl⟩
  ·obtain⟨c,hc⟩:=Option.isSome_iff_exists.1 hj
   refine⟨rfl,some c,?_,?_⟩
   ·have:=uy (e:=some e) (fun x hx=>by cases hx;exact hj)
    rw[←hc];exact this
   simp only[Instr.endRound,Instr.getLoop,bind_eq,gq,bind_assoc]
   refine⟨L .busy none,.inr (List.mem_append_right _ (List.mem_cons_self ..)),(fun _ _ _=>by simp[L]),rfl,?_⟩
   refine⟨L .busy none,A₂,[],rfl,(fun _ _ _=>by simp[L]),rfl,?_⟩
   exact .inr ⟨rfl,Bg++[(l,L .done (some c))],⟨Bg,e,c,BO,hc,rfl⟩,hsb.app .refl⟩
 ·rintro _ A' (⟨B,⟨A,hA,rfl⟩,hsub⟩ | ⟨k,p,v,S,B,hp,hV,⟨A,e,c,hA,hc,rfl⟩,hsub⟩)
  ·refine⟨A++[(l,L .ready none)],hsub,?_⟩
   simp only[Instr.endLoop,Instr.getLoop,bind_eq,gq,bind_assoc]
   refine⟨L .ready none,.inr (List.mem_append_left _ (List.mem_append_right _ (List.mem_cons_self ..))),(fun _ _ _=>by simp[L]),rfl,?_⟩
   refine⟨L .ready none,A,(d,.deferred (some []))::g_ [],by simp,(fun _ _ _=>by simp[L]),rfl,?_⟩
   refine⟨(d,.deferred (some []))::g_ A,?_,after A hA d⟩
   refine Sb.trans (Sb.dF ((hs.perm.2 A).cons _)) ?_
   refine(Sb.dF List.perm_middle.symm).trans (Sb.app .refl (Sb.skip rfl .refl))
  ·refine⟨A++[(l,L .done (some c))]++S,hsub,?_⟩
   simp only[Instr.endLoop,Instr.getLoop,bind_eq,gq,bind_assoc]
   refine⟨L .done (some c),.inr (by simp),(fun _ _ _=>by simp[L]),rfl,?_⟩
   refine⟨L .done (some c),A,S++(d,.deferred (some []))::g_ [],by simp,(fun _ _ _=>by simp[L]),rfl,?_⟩
   show W x c Q ρ (mark d::ds) _
   refine W.sb (F':=(d,.deferred (some []))::g_ (A++S)) ?_ ?_
   ·refine Sb.trans (Sb.dF ((hs.perm.2 (A++S)).cons _)) ?_
    refine(Sb.dF (List.Perm.symm (List.perm_middle (l₁:=A++S)))).trans ?_
    rw[List.append_assoc]
    exact Sb.app .refl (Sb.skip rfl .refl)
   ·have q:=afterX k p v S e A hp hV hA d
    cases e <;>simp only[tK,Option.some.injEq]at hc <;>first | (cases hc;done) | subst hc
    ·exact W.exit q
    ·exact W.goto q
    ·exact W.ret q
end Go.aS
namespace Go.aS
end Go.aS

/- All truths with some heats, gone through. Conditions: none; over the given program. -/
namespace Go.aS
set_option maxRecDepth 100000
set_option maxHeartbeats 1000000
theorem Qy{α:Type}{xs a b:List α}{k:Nat}(h:xs.drop k=a++b):xs.drop (k+a.length)=b:=by
 rw[←List.drop_drop,h,List.drop_left]
theorem drop_at{α:Type}{xs b:List α}{x:α}{k:Nat}(h:xs.drop k=x::b):xs[k]? =some x:=by
 have:=congrArg (fun l=>l[0]?) h
 simpa[List.getElem?_drop]using this
theorem VF{α β:Type}{os:List α}{g:α→List β}{j:Nat}{p:α}(h:os[j]? =some p):(os.take (j+1)).flatMap g=(os.take j).flatMap g++g p:=by
 rw[List.take_add_one,h,List.flatMap_append];simp
theorem VG{α β:Type}{os:List α}{g:α→List β}{xs rest:List β}{k j:Nat}{p:α}(hx:xs.drop k=os.flatMap g++rest)(h:os[j]? =some p):xs.drop (k+((os.take j).flatMap g).length)=g p++((os.drop (j+1)).flatMap g++rest):=by
 have hj:j<os.length:=by
  rcases Nat.lt_or_ge j os.length with h' | h'
  ·exact h'
  ·rw[List.getElem?_eq_none h']at h;cases h
 obtain⟨p',hp',hd⟩:=has hj
 rw[h]at hp'
 cases hp'
 refine Qy (b:=g p++((os.drop (j+1)).flatMap g++rest)) ?_
 rw[hx]
 have e:os.flatMap g=(os.take j).flatMap g++(g p++(os.drop (j+1)).flatMap g):=
  calc os.flatMap g=(os.take j++os.drop j).flatMap g:=by rw[List.take_append_drop]
   _=_:=by rw[hd,List.flatMap_append,List.flatMap_cons]
 rw[e]
 simp only[List.append_assoc]


def MF(x:List Int):List Int:=x++List.replicate (5-x.length) 0
theorem aC2{x:List Int}(h:x.length≤5):(MF x).length=5:=by simp[MF];omega
theorem aJv{x:List Int}(h:x.length≤5):jv #[I 0,I 0,I 0,I 0,I 0] 0 (flat fH x)=((MF x).map nI).toArray:=by
 rcases x with _ | ⟨a,_ | ⟨b,_ | ⟨c,_ | ⟨d,_ | ⟨e,_ | ⟨f,x⟩⟩⟩⟩⟩⟩
 ·rfl
 ·rfl
 ·rfl
 ·rfl
 ·rfl
 ·rfl
 ·simp only[List.length_cons]at h;omega
def okB(B:Boi)(x:List Int):Bool:=decide (azh B (MF x)≠0)
def gxs(B:Boi)(pre:List Int)(hs:List Spn):List (List Int):=((allH hs).map (pre++ ·)).filter (okB B)
theorem aGP{B:Boi}{pre:List Int}{s:Spn}{hs:List Spn}:gxs B pre (s::hs)=(upz s).flatMap fun n=>gxs B (pre++[n]) hs:=by
 rw[gxs,allH,List.map_flatMap,List.filter_flatMap]
 refine congrArg (fun f=>List.flatMap f (upz s)) (funext fun n=>?_)
 rw[gxs,List.map_map]
 exact congrArg (List.filter (okB B)) (List.map_congr_left fun y _=>by simp)
theorem aEQ{B:Boi}{pre:List Int}(h:azh B (MF pre)≠0):gxs B pre []=[pre]:=by simp[gxs,allH,okB,h]
theorem aGQ{B:Boi}{pre:List Int}(h:azh B (MF pre)=0):gxs B pre []=[]:=by simp[gxs,allH,okB,h]
theorem aFG{x:List Int}(h:∀a∈x,0≤a∧a≤4):∀a∈MF x,0≤a∧a≤4:=by
 intro a ha
 rcases List.mem_append.1 ha with h1 | h1
 ·exact h a h1
 ·rw[List.eq_of_mem_replicate h1];decide
def aKw(B0:Boi)(x:List Int)(v:Value)(S:eG):Prop:=v=aIt (MF x) (axX B0 (MF x)) (azh B0 (MF x))∧S=[]
abbrev aJw(b1 b2 b3 b4 b5:Nat):Value:=.func (.func aw1) #[] #[bI b1,bI b2,bI b3,bI b4,bI b5]
def GrE(xs:List (List Int))(B0:Boi)(J:Nat→eG→Prop)(K:Nat→Value→eG→Prop)(lv:Value)(pre:List Int)(k2:Nat)(v:Value)(B:eG)(S:eG):Prop:=
 Os dL fH lv pre S∧((v= .bool true∧J k2 B)∨(v= .bool false∧∃k x,xs[k]? =some x∧K k (aIt (MF x) (axX B0 (MF x)) (azh B0 (MF x))) B))
theorem GrE.bool{xs:List (List Int)}{B0:Boi}{J:Nat→eG→Prop}{K:Nat→Value→eG→Prop}{lv:Value}{pre:List Int}{k2:Nat}{v:Value}{B S:eG}(h:GrE xs B0 J K lv pre k2 v B S):∃r,v= .bool r:=by
 obtain⟨_,⟨h3,_⟩ | ⟨h3,_⟩⟩:=h
 ·exact⟨_,h3⟩
 ·exact⟨_,h3⟩
theorem aL9{B S2 S3 A0 B1:eG}{x y:Nat×Obj}(hsb:Sb (B++S2) B1)(h3:Sb S3 (S2++A0))(hx:opn x.2=false)(hy:opn y.2=false):Sb (B++S3) (B1++x::y::A0):=by
 refine(Sb.app (A:=B) (B:=B) .refl h3).trans ?_
 rw[←List.append_assoc]
 exact hsb.app (.skip hx (.skip hy .refl))
theorem aKv{B S2 S3 A0 B1:eG}{x y:Nat×Obj}(hsb:Sb (B++S2) B1)(h3:Sb S3 (S2++A0))(hx:opn x.2=false):Sb (y::(B++S3)) (B1++x::y::A0):=by
 refine Sb.trans (B:=y::(B1++A0)) (.cons ?_) ?_
 ·refine(Sb.app (A:=B) (B:=B) .refl h3).trans ?_
  rw[←List.append_assoc]
  exact hsb.app .refl
 ·refine Sb.trans (Sb.dF (List.perm_middle (l₁:=B1)).symm) (Sb.app .refl (.skip hx .refl))

theorem aKj(main:Side)(B0:Boi)(ok:BOK B0)(f0:Spn)(vs vr vm vh vp yv:Value)(b β b1 b2 b3 b4 b5:Nat)(E1 E2 E3 E4 E5:TypeId)(z1 z2 z3 z4 z5:Nat×Nat)(h0:B0.hs[0]? =some f0)(hy1:one yv=true)(xs:List (List Int))(J:Nat→eG→Prop)(K:Nat→Value→eG→Prop):
  ∀(hs2:List Spn) (pre:List Int) (h:Hp) (k:Nat) (rest:List (List Int)) (A S:eG) (lv:Value),B0.hs.drop pre.length=hs2→pre.length≤B0.hs.length→(∀a∈pre,0≤a∧a≤4)→aBp h vs vr vm vh vp B0→h b=some (awQ vs vr vm vh vp β)→
   h b1=some (.cells #[bI b] E1 z1)→h b2=some (.cells #[vp] E2 z2)→h b3=some (.cells #[yv] E3 z3)→h b4=some (.cells #[I f0.lo,I f0.hi] E4 z4)→h b5=some (.cells #[aJw b1 b2 b3 b4 b5] E5 z5)→
   Vw prog main yv h (aKw B0) xs J K→xs.drop k=gxs B0 pre hs2++rest→J k A→Os dL fH lv pre S→
   dV prog main aw1 #[lv,bI b1,bI b2,bI b3,bI b4,bI b5] h (A++S) (fun v A'=>∃B S',GrE xs B0 J K lv pre (k+(gxs B0 pre hs2).length) v B S'∧Sb (B++S') A'):=by
 have h5:=ok.h2
 have hb4:=ok.hp
 obtain⟨hs,hhs⟩:∃hs,B0.hs=hs:=⟨_,rfl⟩
 rw[hhs]at h5 hb4 h0⊢
 intro hs2
 induction hs2 with
 | nil=>
  intro pre h k rest A S lv hd hpl hpb hB hb hb1 hb2 hb3 aKk hb5 hy hx hJ hO
  have hpn:pre.length=hs.length:=by
   have:=congrArg List.length hd
   simp at this;omega
  have hp5:=aC2 (x:=pre) (by omega)
  have aM3:((MF pre).map nI).toArray.size=5:=by simp[hp5]
  have aNK:((MF pre).map nI).toArray.extract 0 (0+5)=((MF pre).map nI).toArray:=by
   rw[Array.extract_eq_self_of_le (by rw[aM3];omega)]
  have aKy:(ayp (MF pre) (axX B0 (MF pre)) (azh B0 (MF pre))).size=12:=rfl
  have aNL:(ayp (MF pre) (axX B0 (MF pre)) (azh B0 (MF pre)))[11]? =some (I (azh B0 (MF pre))):=rfl
  have aMi:ones (ayp (MF pre) (axX B0 (MF pre)) (azh B0 (MF pre))).toList=true:=rfl
  have aMj:(ayp (MF pre) (axX B0 (MF pre)) (azh B0 (MF pre))).extract 0 (0+12)=ayp (MF pre) (axX B0 (MF pre)) (azh B0 (MF pre)):=by
   rw[Array.extract_eq_self_of_le (by rw[aKy];omega)]
  have hh:=hB.hm
  rw[hhs]at hh
  obtain⟨a,cap,rfl⟩:=hh.dA
  obtain⟨a5,cap5,rfl⟩:=hB.pm.dA
  obtain⟨al,cl,rfl⟩:=hO.dA
  have hxk:azh B0 (MF pre)≠0→xs[k]? =some pre:=fun hz=>by
   refine drop_at (b:=rest) ?_
   rw[hx,aEQ hz];rfl
  refine dV.aG ayh rfl (by show 6≤64;decide) [(0,.slice al pre.length cl),(1,bI b1),(2,bI b2),(3,bI b3),(4,bI b4),(5,bI b5)] ⟨rfl,rfl,rfl,rfl,rfl,rfl,trivial⟩ ?_
  refine W.seq<|W.region rfl<|agb rfl rfl rfl<|pq<|W.seq<|W.seq<|W.region rfl<|qm rfl rfl rfl ?_
  refine agW (dM rfl rfl) rfl ?_
  refine agX rfl ?_
  refine ag4 rfl ?_
  refine agY rfl ?_
  refine agY rfl ?_
  refine agX rfl ?_
  refine agW (dM rfl rfl) rfl ?_
  refine agW (nD rfl rfl rfl) rfl ?_
  refine pq ?_
  refine W.bC rfl (fun c20=>?_) (fun c20=>?_)
  ·refine W.seq<|W.region rfl ?_
   refine Ops.new (fun yD=>?_)
   refine pq<|W.seq<|W.region rfl ?_
   refine agW (aCE rfl rfl) rfl ?_
   refine qm rfl rfl rfl ?_
   refine oe rfl wn rfl rfl (aKe (row:=fH) (l:=pre) (b:=yD) rfl rfl rfl hO (fun p hp=>List.mem_cons_of_mem _ (List.mem_append_right _ hp)) (by omega) At.head (by simp;omega) ?_)
   rw[aJv (by omega)]
   refine pq<|W.seq<|W.region rfl ?_
   refine agX rfl ?_
   first | refine ag2 rfl ?_ | refine agW (ady rfl rfl) rfl ?_
   refine agX rfl ?_
   refine cp (fun h' hE hL=>aJu _ h' b β _ _ _ _ _ B0 ok (MF pre) (hE.1 _ _ hb) (hB.ext hE) hp5 (aFG hpb)) ?_
   refine Ops.new (fun Uw=>?_)
   first | refine Ops.jP ?_ | refine Ops.nY ?_
   refine pq<|W.seq<|W.region rfl ?_
   refine agY rfl ?_
   refine agX rfl ?_
   refine agW (nD rfl rfl rfl) rfl ?_
   refine qm rfl rfl rfl ?_
   refine Ops.ask (fun aeY=>?_) (fun aeY=>?_)
   ·refine Ops.no ?_
    refine Ops.no ?_
    refine Ops.no ?_
    refine agW (dG rfl rfl rfl) rfl ?_
    refine agb rfl rfl rfl<|pq<|W.ret<|aY ?_
    first
     | (exfalso;omega)
     | (
       rcases hr1 with⟨rfl,B,hJB,hsb⟩ | ⟨rfl,B,hKB,hsb⟩
       ·exact mg (vs:=[.bool true]) ⟨B,S,⟨hO,.inl ⟨rfl,by rw[aEQ aeY];exact hJB⟩⟩,hsb.app (.skip rfl (.skip rfl .refl))⟩
       ·exact mg (vs:=[.bool false]) ⟨B,S,⟨hO,.inr ⟨rfl,k,pre,hxk aeY,hKB⟩⟩,hsb.app (.skip rfl (.skip rfl .refl))⟩)
     | exact mg (vs:=[.bool true]) ⟨A,S,⟨hO,.inl ⟨rfl,by rw[aGQ aeY];exact hJ⟩⟩,.skip rfl (.skip rfl .refl)⟩
   ·refine oq (iQ rfl rfl) rfl (ak rfl rfl rfl) rfl rfl ?_
    first | refine oq (Bf rfl rfl) rfl (ak rfl rfl rfl) rfl rfl ?_ | refine oq (zi rfl rfl) rfl (ak rfl rfl rfl) rfl rfl ?_ | refine oq (ady rfl rfl) rfl (ak rfl rfl rfl) rfl rfl ?_
    refine Ops.perm (F':=A++((Uw,.cells (ayp (MF pre) (axX B0 (MF pre)) (azh B0 (MF pre))) GR (0,0))::(yD,.cells ((MF pre).map nI).toArray Pn (0,0))::S)) (List.perm_middle.trans (.cons _ List.perm_middle)) ?_
    refine cgv .head (fun h2 hE hL=>hy h2 hE k pre (aIt (MF pre) (axX B0 (MF pre)) (azh B0 (MF pre))) [] A (hxk aeY) ⟨rfl,rfl⟩ (fun b o h=>by cases h) hJ) (fun r B1 hr1=>?_)
    refine agW (iH rfl rfl rfl) rfl ?_
    refine agb rfl rfl rfl<|pq<|W.ret<|aY ?_
    first
     | (exfalso;omega)
     | (
       rcases hr1 with⟨rfl,B,hJB,hsb⟩ | ⟨rfl,B,hKB,hsb⟩
       ·exact mg (vs:=[.bool true]) ⟨B,S,⟨hO,.inl ⟨rfl,by rw[aEQ aeY];exact hJB⟩⟩,hsb.app (.skip rfl (.skip rfl .refl))⟩
       ·exact mg (vs:=[.bool false]) ⟨B,S,⟨hO,.inr ⟨rfl,k,pre,hxk aeY,hKB⟩⟩,hsb.app (.skip rfl (.skip rfl .refl))⟩)
     | exact mg (vs:=[.bool true]) ⟨A,S,⟨hO,.inl ⟨rfl,by rw[aGQ aeY];exact hJ⟩⟩,.skip rfl (.skip rfl .refl)⟩
  ·exact absurd ‹¬_› (by simp;omega)
 | cons s hs2 ih=>
  intro pre h k rest A S lv hd hpl hpb hB hb hb1 hb2 hb3 aKk hb5 hy hx hJ hO
  have hil:pre.length<hs.length:=by
   have:=congrArg List.length hd
   simp at this;omega
  obtain⟨s',QL,hdr⟩:=has hil
  rw[hd]at hdr
  injection hdr with e1 e2
  subst e1
  have af4:=hb4 s (List.mem_of_getElem? QL)
  have hfs:pre.length=0→f0=s:=fun h=>by rw[h,h0]at QL;exact Option.some.inj QL
  obtain⟨N,hN⟩:∃N:Nat,s.hi-s.lo+1=N:=⟨(s.hi-s.lo+1).toNat,by omega⟩
  have hN2:(s.hi-s.lo+1).toNat=N:=by omega
  have aL_:(upz s).length=N:=by simp[upz,hN2]
  have hup:∀j,j<N→(upz s)[j]? =some (s.lo+(j:Int)):=fun j hj=>by
   simp[upz,hN2,List.getElem?_range hj]
  obtain⟨g,hg⟩:∃g:Int→List (List Int),g=fun n=>gxs B0 (pre++[n]) hs2:=⟨_,rfl⟩
  have hgl:∀n,(g n).length=(gxs B0 (pre++[n]) hs2).length:=fun n=>by rw[hg]
  have hx2:xs.drop k=(upz s).flatMap g++rest:=by rw[hx,aGP,hg]
  have hlen0:(gxs B0 pre (s::hs2)).length=((upz s).flatMap g).length:=by rw[aGP,hg]
  have hpn:∀j,j<N→∀a∈pre++[s.lo+(j:Int)],0≤a∧a≤4:=fun j hj a ha=>by
   rcases List.mem_append.1 ha with h1 | h1
   ·exact hpb a h1
   ·rw[List.mem_singleton.1 h1];omega
  have hlen1:∀a:Int,(pre++[a]).length=pre.length+1:=fun a=>by simp
  have hh:=hB.hm
  rw[hhs]at hh
  obtain⟨a,cap,rfl⟩:=hh.dA
  obtain⟨al,cl,rfl⟩:=hO.dA
  obtain⟨bh,aC0,ch,Eh,fzh,e3,hbh,hxh,hyh,-⟩:=hh.at QL
  cases e3
  have aMh:ch.extract (aC0+pre.length*2) (aC0+pre.length*2+2)= #[I s.lo,I s.hi]:=hxh
  clear hxh
  rw[hlen0]
  refine dV.aG ayh rfl (by show 6≤64;decide) [(0,.slice al pre.length cl),(1,bI b1),(2,bI b2),(3,bI b3),(4,bI b4),(5,bI b5)] ⟨rfl,rfl,rfl,rfl,rfl,rfl,trivial⟩ ?_
  refine W.seq<|W.region rfl<|agb rfl rfl rfl<|pq<|W.seq<|W.seq<|W.region rfl<|qm rfl rfl rfl ?_
  refine agW (dM rfl rfl) rfl ?_
  refine agX rfl ?_
  refine ag4 rfl ?_
  refine agY rfl ?_
  refine agY rfl ?_
  refine agX rfl ?_
  refine agW (dM rfl rfl) rfl ?_
  refine agW (nD rfl rfl rfl) rfl ?_
  refine pq ?_
  refine W.bC rfl (fun c20=>?_) (fun c20=>?_)
  ·exact absurd c20 (by omega)
  ·refine W.skip<|aA<|W.seq<|W.region rfl ?_
   refine agX rfl ?_
   refine ag4 rfl ?_
   refine agY rfl ?_
   refine agY rfl ?_
   refine agX rfl ?_
   refine qm rfl rfl rfl ?_
   refine agW (dM rfl rfl) rfl ?_
   refine ag3 rfl ?_
   first | refine ag2 rfl ?_ | refine agW (ady rfl rfl) rfl ?_
   refine Ops.new (fun Oj=>?_)
   first | refine Ops.jP ?_ | refine Ops.nY ?_
   refine pq<|W.seq<|W.seq<|W.region rfl<|qm rfl rfl rfl ?_
   refine agW (dM rfl rfl) rfl ?_
   refine agW (nD rfl rfl rfl) rfl ?_
   refine pq ?_
   refine W.bC rfl (fun c47=>?_) (fun c47=>?_)
   ·refine W.region rfl ?_
    refine agW (zi (vs:= #[I s.lo,I s.hi]) rfl rfl (.inl aKk) (Nat.le_of_ble_eq_true rfl) (by rw[hfs (by omega)];rfl)) rfl ?_
    first | refine Ops.jP ?_ | refine Ops.nY ?_
    refine pq<|W.seq<|W.seq<|W.region rfl ?_
    refine agY rfl ?_
    refine agX rfl ?_
    refine agb rfl rfl rfl<|pq<|W.block ?_
    refine W.Js (σ:=Nat) (τ:=eG) (υ:=eG) (fun j A S=>j≤N∧J (k+(((upz s).take j).flatMap g).length) A∧Os dL fH (.slice al pre.length cl) pre S) (fun j _ _=>[(11,I (s.lo+(j:Int))),(10,bI Oj),(0,.slice al pre.length cl),(1,bI b1),(2,bI b2),(3,bI b3),(4,bI b4),(5,bI b5)])
     (fun _ A S=>(Oj,.cells #[I s.lo,I s.hi] ayj (0,0))::(A++S)) (fun j _ _=>N-j) 0 A S ⟨Nat.zero_le _,hJ,hO⟩ ⟨lk rfl (by simp),rfl,rfl,rfl,rfl,rfl,rfl,rfl,trivial⟩ .refl ?_
    rintro j A S ⟨hj,hJj,hOj⟩
    refine W.seq<|W.seq<|W.region rfl<|qm rfl rfl rfl ?_
    refine agY rfl ?_
    refine agX rfl ?_
    refine agW (Lr rfl rfl rfl) rfl ?_
    refine pq ?_
    refine W.bC rfl (fun c54=>?_) (fun c54=>?_)
    ·have hjN:j<N:=by omega
     have hpj:=hup j hjN
     have hx3:=VG hx2 hpj
     have hnx:=VF (g:=g) hpj
     refine W.skip<|aA<|W.seq<|W.block<|W.seq ?_
     refine W.DR [] (n:=7) rfl ?_
     refine dn 0 (iQ rfl rfl) rfl ?_
     refine dn 1 (aN rfl rfl) rfl ?_
     refine dn 2 (aN rfl rfl) rfl ?_
     refine ae (i:=3) rfl an rfl rfl (DN (parts:=[⟨_,_⟩]) (cs:= #[I (s.lo+(j:Int))]) rfl rfl (by decide) (by decide) (by kernel_rfl) fun aJx _ _=>⟨.inr Keeps.nil,?_⟩)
     refine ae (i:=4) rfl an rfl rfl (aFE (row:=fH) (l:=pre) (l':=[s.lo+(j:Int)]) rfl rfl rfl hOj (.tail (.tail (.app .all))) (fun h2 _ hl=>Sl.mk (hl aJx _ (.head _)) rfl (Part.all (flat fH [s.lo+(j:Int)]))) (by simp;omega) (by decide) rfl (fun v' A1 A0 hO1 hback=>?_))
     refine⟨.inr Keeps.nil,?_⟩
     refine Any.perm (F':=(A++A1)++((aJx,.cells #[I (s.lo+(j:Int))] dL (0,0))::(Oj,.cells #[I s.lo,I s.hi] ayj (0,0))::A0)) ?_ ?_
     ·rw[List.append_assoc]
      exact(List.Perm.append_left A List.perm_middle).trans (List.perm_middle.trans (.cons _ ((List.Perm.append_left A List.perm_middle).trans List.perm_middle)))
     refine ae (i:=5) rfl an rfl rfl (tJ (args:=[_]) rfl rfl rfl .head (fun h' hE hL=>gZ.zh (fi:=[]) (args:=[_]) (ca:=[_,_,_,_,_]) (ih (pre++[s.lo+(j:Int)]) h' _ _ A A1 v' (by rw[hlen1,←List.drop_drop,hd];rfl) (by rw[hlen1];omega) (hpn j hjN) (hB.ext hE) (hE.1 _ _ hb) (hE.1 _ _ hb1) (hE.1 _ _ hb2) (hE.1 _ _ hb3) (hE.1 _ _ aKk) (hE.1 _ _ hb5) (hy.ext hE) (by rw[hx3,hg]) hJj hO1)) (fun v B1 hv=>?_))
     refine⟨.inr Keeps.nil,?_⟩
     obtain⟨B,S2,hGr,hsb⟩:=hv
     obtain⟨r,rfl⟩:=hGr.bool
     obtain⟨S3,hS3,afy⟩:=hback S2 hGr.1
     refine dn 6 (xU rfl rfl) rfl ?_
     refine az ?_
     refine aA ?_
     refine W.cond rfl (fun c63=>?_) (fun c63=>?_)
     ·refine W.seq<|W.region rfl<|agb rfl rfl rfl<|pq<|W.ret<|cZ<|aY<|aY<|cZ ?_
      refine aY ?_
      obtain rfl:=adS ‹(!r)=true›
      refine mg (vs:=[.bool false]) ⟨B,S3,⟨hS3,.inr ?_⟩,?_⟩
      ·rcases hGr.2 with⟨h,_⟩ | h
       ·cases h
       ·exact h
      ·exact aL9 hsb afy rfl rfl
     ·refine W.skip<|dI<|aA<|W.region rfl<|qm rfl rfl rfl ?_
      refine ag1 rfl ?_
      refine agb rfl rfl rfl<|pq ?_
      obtain rfl:=adT ‹(!r)=false›
      have hJ2:J (k+(((upz s).take (j+1)).flatMap g).length) B:=by
       rcases hGr.2 with⟨_,h⟩ | ⟨h,_⟩
       ·rw[hnx,List.length_append,←Nat.add_assoc,hgl];exact h
       ·cases h
      exact⟨rfl,j+1,B,S3,⟨hjN,hJ2,hS3⟩,by omega,⟨lk rfl (show I _=I _ by congr 1;omega),rfl,rfl,rfl,rfl,rfl,rfl,rfl,trivial⟩,aKv hsb afy rfl⟩
    ·obtain rfl:j=N:=by omega
     refine W.exit<|bP<|bP<|gG<|aA<|W.seq<|W.region rfl<|agb rfl rfl rfl<|pq ?_
     refine W.ret ?_
     refine mg (vs:=[.bool true]) ⟨A,S,⟨hOj,.inl ⟨rfl,?_⟩⟩,.skip rfl .refl⟩
     rw[List.take_of_length_le (Nat.le_of_eq aL_)]at hJj
     exact hJj
   ·refine W.skip<|aA<|W.seq<|W.seq<|W.region rfl ?_
    refine agY rfl ?_
    refine agX rfl ?_
    refine agb rfl rfl rfl<|pq<|W.block ?_
    refine W.Js (σ:=Nat) (τ:=eG) (υ:=eG) (fun j A S=>j≤N∧J (k+(((upz s).take j).flatMap g).length) A∧Os dL fH (.slice al pre.length cl) pre S) (fun j _ _=>[(11,I (s.lo+(j:Int))),(10,bI Oj),(0,.slice al pre.length cl),(1,bI b1),(2,bI b2),(3,bI b3),(4,bI b4),(5,bI b5)])
     (fun _ A S=>(Oj,.cells #[I s.lo,I s.hi] ayj (0,0))::(A++S)) (fun j _ _=>N-j) 0 A S ⟨Nat.zero_le _,hJ,hO⟩ ⟨lk rfl (by simp),rfl,rfl,rfl,rfl,rfl,rfl,rfl,trivial⟩ .refl ?_
    rintro j A S ⟨hj,hJj,hOj⟩
    refine W.seq<|W.seq<|W.region rfl<|qm rfl rfl rfl ?_
    refine agY rfl ?_
    refine agX rfl ?_
    refine agW (Lr rfl rfl rfl) rfl ?_
    refine pq ?_
    refine W.bC rfl (fun c54=>?_) (fun c54=>?_)
    ·have hjN:j<N:=by omega
     have hpj:=hup j hjN
     have hx3:=VG hx2 hpj
     have hnx:=VF (g:=g) hpj
     refine W.skip<|aA<|W.seq<|W.block<|W.seq ?_
     refine W.DR [] (n:=7) rfl ?_
     refine dn 0 (iQ rfl rfl) rfl ?_
     refine dn 1 (aN rfl rfl) rfl ?_
     refine dn 2 (aN rfl rfl) rfl ?_
     refine ae (i:=3) rfl an rfl rfl (DN (parts:=[⟨_,_⟩]) (cs:= #[I (s.lo+(j:Int))]) rfl rfl (by decide) (by decide) (by kernel_rfl) fun aJx _ _=>⟨.inr Keeps.nil,?_⟩)
     refine ae (i:=4) rfl an rfl rfl (aFE (row:=fH) (l:=pre) (l':=[s.lo+(j:Int)]) rfl rfl rfl hOj (.tail (.tail (.app .all))) (fun h2 _ hl=>Sl.mk (hl aJx _ (.head _)) rfl (Part.all (flat fH [s.lo+(j:Int)]))) (by simp;omega) (by decide) rfl (fun v' A1 A0 hO1 hback=>?_))
     refine⟨.inr Keeps.nil,?_⟩
     refine Any.perm (F':=(A++A1)++((aJx,.cells #[I (s.lo+(j:Int))] dL (0,0))::(Oj,.cells #[I s.lo,I s.hi] ayj (0,0))::A0)) ?_ ?_
     ·rw[List.append_assoc]
      exact(List.Perm.append_left A List.perm_middle).trans (List.perm_middle.trans (.cons _ ((List.Perm.append_left A List.perm_middle).trans List.perm_middle)))
     refine ae (i:=5) rfl an rfl rfl (tJ (args:=[_]) rfl rfl rfl .head (fun h' hE hL=>gZ.zh (fi:=[]) (args:=[_]) (ca:=[_,_,_,_,_]) (ih (pre++[s.lo+(j:Int)]) h' _ _ A A1 v' (by rw[hlen1,←List.drop_drop,hd];rfl) (by rw[hlen1];omega) (hpn j hjN) (hB.ext hE) (hE.1 _ _ hb) (hE.1 _ _ hb1) (hE.1 _ _ hb2) (hE.1 _ _ hb3) (hE.1 _ _ aKk) (hE.1 _ _ hb5) (hy.ext hE) (by rw[hx3,hg]) hJj hO1)) (fun v B1 hv=>?_))
     refine⟨.inr Keeps.nil,?_⟩
     obtain⟨B,S2,hGr,hsb⟩:=hv
     obtain⟨r,rfl⟩:=hGr.bool
     obtain⟨S3,hS3,afy⟩:=hback S2 hGr.1
     refine dn 6 (xU rfl rfl) rfl ?_
     refine az ?_
     refine aA ?_
     refine W.cond rfl (fun c63=>?_) (fun c63=>?_)
     ·refine W.seq<|W.region rfl<|agb rfl rfl rfl<|pq<|W.ret<|cZ<|aY<|aY<|cZ ?_
      refine aY ?_
      obtain rfl:=adS ‹(!r)=true›
      refine mg (vs:=[.bool false]) ⟨B,S3,⟨hS3,.inr ?_⟩,?_⟩
      ·rcases hGr.2 with⟨h,_⟩ | h
       ·cases h
       ·exact h
      ·exact aL9 hsb afy rfl rfl
     ·refine W.skip<|dI<|aA<|W.region rfl<|qm rfl rfl rfl ?_
      refine ag1 rfl ?_
      refine agb rfl rfl rfl<|pq ?_
      obtain rfl:=adT ‹(!r)=false›
      have hJ2:J (k+(((upz s).take (j+1)).flatMap g).length) B:=by
       rcases hGr.2 with⟨_,h⟩ | ⟨h,_⟩
       ·rw[hnx,List.length_append,←Nat.add_assoc,hgl];exact h
       ·cases h
      exact⟨rfl,j+1,B,S3,⟨hjN,hJ2,hS3⟩,by omega,⟨lk rfl (show I _=I _ by congr 1;omega),rfl,rfl,rfl,rfl,rfl,rfl,rfl,trivial⟩,aKv hsb afy rfl⟩
    ·obtain rfl:j=N:=by omega
     refine W.exit<|bP<|bP<|gG<|aA<|W.seq<|W.region rfl<|agb rfl rfl rfl<|pq ?_
     refine W.ret ?_
     refine mg (vs:=[.bool true]) ⟨A,S,⟨hOj,.inl ⟨rfl,?_⟩⟩,.skip rfl .refl⟩
     rw[List.take_of_length_le (Nat.le_of_eq aL_)]at hJj
     exact hJj
end Go.aS

/- A boil at work. Conditions: none; over the given program. -/
namespace Go.aS
set_option maxRecDepth 100000
set_option maxHeartbeats 1000000
theorem eiH:EqAt prog dL 1 1:=EqAt.int
theorem ckH:aEA prog dL 1 1:=aEA.int
theorem aIu:V7 prog Pn 5 2:=V7.array (n:=5) (w:=1) (K:=1) eiH
theorem aIv:CkV prog Pn 5 2:=CkV.array (n:=5) (w:=1) (K:=1) ckH
instance:EV prog Pn 5:=⟨aIu.le (by decide)⟩
instance:KV prog Pn 5:=⟨inferInstance,aIv.le (by decide),_,TD.out,.inr ⟨_,_,rfl⟩⟩
def ayo(B:Boi):List (List Int):=gxs B [] B.hs
theorem aAC{B:Boi}{x:List Int}:x∈ayo B↔x∈allH B.hs∧azh B (MF x)≠0:=by
 simp[ayo,gxs,okB]
theorem aHv{B:Boi}:(ayo B).Nodup:=by
 have:ayo B=(allH B.hs).filter (okB B):=by simp[ayo,gxs]
 rw[this]
 exact aEO.sublist (List.filter_sublist ..)
def aF_(B:Boi)(x:List Int):List Int×Value:=(MF x,aIt (MF x) (axX B (MF x)) (azh B (MF x)))
def WM(B:Boi):List (List Int×Value):=(ayo B).map (aF_ B)
theorem aJy{x y:List Int}(h:x.length=y.length)(e:MF x=MF y):x=y:=by
 unfold MF at e
 exact(List.append_inj e h).1
theorem aJz{α:Type}{l:List α}{k:Nat}{p:α}(h:l.Nodup)(hk:l[k]? =some p):p∉l.take k:=by
 intro hm
 obtain⟨p',hp',hd⟩:=has (List.getElem?_eq_some_iff.1 hk).1
 rw[hk]at hp'
 cases hp'
 rw[←List.take_append_drop k l,hd]at h
 exact(List.nodup_append.1 h).2.2 p hm p (List.mem_cons_self ..) rfl
theorem aJD{B:Boi}{k:Nat}{p:List Int}(hk:(ayo B)[k]? =some p):MF p∉(((ayo B).take k).map (aF_ B)).map (·.1):=by
 intro hm
 rw[List.map_map]at hm
 obtain⟨q,hq,e⟩:=List.mem_map.1 hm
 have h1:=az0 (aAC.1 (List.mem_of_mem_take hq)).1
 have h2:=az0 (aAC.1 (List.mem_of_getElem? hk)).1
 have:=aJy (by rw[h1,h2]) e
 subst this
 exact aJz aHv hk hq

theorem aHS(main:Side)(h:Hp)(b:Nat)(f0:Spn)(vp:Value)(ho:one vp=true):dV prog main azm #[bI b,vp,f0.val] h [] (fun v A=>∃b1 b2 b3,v= .func (.func awz) #[] #[bI b1,bI b2,bI b3]∧A=[(b3,.cells #[I f0.lo,I f0.hi] ayj (0,0)),(b2,.cells #[vp] aD6 (0,0)),(b1,.cells #[bI b] awT (0,0))]):=by
 refine dV.aG aBk rfl (by show 3≤8;decide) [(0,bI b),(1,vp),(2,f0.val)] ⟨rfl,rfl,rfl,trivial⟩ ?_
 refine W.seq<|W.region rfl ?_
 refine Ops.box (fun uU=>?_)
 refine Ops.box (cs:= #[vp]) (fun wC=>?_) rfl rfl (OO ho)
 refine Ops.box (fun mZ=>?_)
 refine agb rfl rfl rfl<|pq<|W.seq<|W.region rfl ?_
 refine agW (ayq rfl rfl rfl) rfl ?_
 refine agb rfl rfl rfl<|pq<|W.ret ?_
 exact mg ⟨_,_,_,rfl,rfl⟩

theorem aGa(main:Side)(h:Hp)(B0:Boi)(ok:BOK B0)(f0:Spn)(vs vr vm vh vp:Value)(b β b1 b2 b3:Nat)(E1 E2 E3:TypeId)(z1 z2 z3:Nat×Nat)(h0:B0.hs[0]? =some f0)
  (hB:aBp h vs vr vm vh vp B0) (hb:h b=some (awQ vs vr vm vh vp β)) (hb1:h b1=some (.cells #[bI b] E1 z1)) (hb2:h b2=some (.cells #[vp] E2 z2)) (hb3:h b3=some (.cells #[I f0.lo,I f0.hi] E3 z3)):
  Me prog main (.func (.func awz) #[] #[bI b1,bI b2,bI b3]) (aKw B0) (ayo B0) h:=by
 intro h' hE0 yv hy1 J K hy A hJ
 refine gZ.zh (f:=awz) (fi:=[]) (args:=[_]) (ca:=[bI b1,bI b2,bI b3]) ?_
 refine dV.aG aAJ rfl (by show 4≤9;decide) [(0,yv),(1,bI b1),(2,bI b2),(3,bI b3)] ⟨rfl,rfl,rfl,rfl,trivial⟩ ?_
 refine W.seq<|W.region rfl ?_
 refine Ops.box (fun wC=>?_) rfl rfl (OO hy1)
 refine pq<|W.seq<|W.region rfl ?_
 refine Ops.new (fun mZ=>?_)
 refine pq<|W.seq<|W.region rfl ?_
 refine agW (ayq rfl rfl rfl) rfl ?_
 refine Ops.yG ?_
 refine pq<|W.region rfl ?_
 refine agX rfl ?_
 refine Ops.perm (F':=A++[(mZ,.cells #[aJw b1 b2 wC b3 mZ] 55 (0,0)),(wC,.cells #[yv] 146 (0,0))]) (List.perm_append_comm (l₂:=[_,_])) ?_
 refine cgv .head (fun h2 hE hL=>gZ.zh (fi:=[]) (args:=[_]) (ca:=[_,_,_,_,_]) (List.append_nil A▸aKj _ B0 ok f0 vs vr vm vh vp yv b β b1 b2 wC b3 mZ _ _ _ _ _ _ _ _ _ _ h0 hy1 (ayo B0) J K B0.hs [] h2 0 [] A [] (.slice none 0 0) rfl (Nat.zero_le _) (fun a ha=>by cases ha) (hB.ext (hE0.trans hE)) ((hE0.trans hE).1 _ _ hb) ((hE0.trans hE).1 _ _ hb1) ((hE0.trans hE).1 _ _ hb2) (hL _ _ (.tail _ (.head _))) ((hE0.trans hE).1 _ _ hb3) (hL _ _ (.head _)) (hy.ext hE) (by simp[ayo]) hJ (.nil .nil))) (fun v B1 hv=>?_)
 obtain⟨B,S',⟨hO,hJK⟩,hsb⟩:=hv
 refine Ops.nil ?_
 have hs2:Sb B (B1++[(mZ,.cells #[aJw b1 b2 wC b3 mZ] 55 (0,0)),(wC,.cells #[yv] 146 (0,0))]):=
  Sb.trans (Sb.right .refl hO.shut) (hsb.right (.cons rfl (.cons rfl .nil)))
 refine mg (vs:=[]) ?_
 rcases hJK with⟨_,h⟩ | ⟨_,k,x,hx,hK⟩
 ·refine .inl ⟨B,?_,hs2⟩
  rw[Nat.zero_add]at h;exact h
 ·exact .inr ⟨k,x,_,[],B,hx,⟨rfl,rfl⟩,hK,by rw[List.append_nil];exact hs2⟩
end Go.aS

/- An array is built. Conditions: none; over any program. -/
namespace Go.aS
theorem aGZ{x:Cx}{ρ:Env}{o:Oper}{t n E s b s' b':Nat}{z z':Value}{zc zc':Array Value}{parts:List (Nat×Operand)}{vs:List Value}{cs:Array Value}{S:eG→Prop}(ho:o.op= .build t parts.toArray)[TD x.P t (.array n E)][TI x.P t s b z zc][TI x.P E s' b' z' zc'](hv:evs ρ (parts.map (·.2))=some vs)
  (hf:Instr.fill (fun i:Nat=>some (i*s',s')) zc ((parts.map (·.1)).zip vs)=some cs):Yv x S ρ o (.agg cs):=fun e he F hF h' hE=>by
 obtain⟨j,_,_,_,_,hz⟩:=TI.out (inferInstance:TI x.P t s b z zc)
 have hp:parts.map (fun(p:Nat×Operand)=>(p.1,e p.2))=(parts.map (·.1)).zip vs:=by
  rw[←lN he hv,List.map_map]
  clear hf hv ho
  induction parts with
  | nil=>rfl
  | cons p r ih=>simp[ih]
 simp only[execOp,ho,Instr.build,List.map_toArray,bind_eq,gq,bind_assoc,bind_pure,fG,aC,dH,hz]
 have hp':(parts.map fun x=>match x with | (i,y)=>(i,e y))=(parts.map (·.1)).zip vs:=hp
 simp only[hp',hf]
 exact⟨rfl,rfl⟩
end Go.aS
