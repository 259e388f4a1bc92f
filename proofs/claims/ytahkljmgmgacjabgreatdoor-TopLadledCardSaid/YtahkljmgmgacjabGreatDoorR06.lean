/- What is wrong on a floor. Conditions: none; over the given program. (And 10 texts more.) -/
import Derived.Test.YtahkljmgmgacjabGreatDoorR05
import Derived.Test.YtahkljmgmgacjabGreatDoorR04
set_option linter.unusedVariables false
set_option linter.unusedSimpArgs false
set_option linter.unusedSectionVars false

/- What is wrong on a floor. Conditions: none; over the given program. -/
namespace Go.aS
set_option maxRecDepth 100000
set_option maxHeartbeats 4000000
instance aMW:MV prog aHi "muscovado/floor.day" ay9:=MV.row (by kernel_rfl) (by kernel_rfl)
instance aMX:MV prog aHj "muscovado/floor.day" ay_:=MV.row (by kernel_rfl) (by kernel_rfl)
instance:NI prog aHi:=⟨by kernel_rfl⟩
instance:NI prog aHj:=⟨by kernel_rfl⟩
def awK:ayl→Value
  | none=>.nilIface
  | some (true,n)=>.iface aHj (.agg #[I n])
  | some (false,n)=>.iface aHi (.agg #[I n])
theorem aHm(f:ayl):one (awK f)=true:=by
  rcases f with _ | ⟨_ | _,n⟩ <;>rfl

theorem aCR(main:Side)(h:Hp)(n:Int):Pu prog main ay9 #[.agg #[I n]] h (I n):=by
  refine dV.aG aDg rfl (by show 1≤5;decide) [(0,.agg #[I n])] ⟨rfl,trivial⟩ ?_
  refine W.seq<|W.region rfl ?_
  refine Ops.box (fun β1=>?_)
  refine agb rfl rfl rfl<|pq<|W.seq<|W.region rfl ?_
  refine agY rfl ?_
  refine agX rfl ?_
  refine agb rfl rfl rfl<|pq<|W.ret ?_
  exact uZ rfl
theorem aCS(main:Side)(h:Hp)(n:Int):Pu prog main ay_ #[.agg #[I n]] h (I n):=by
  refine dV.aG aDh rfl (by show 1≤5;decide) [(0,.agg #[I n])] ⟨rfl,trivial⟩ ?_
  refine W.seq<|W.region rfl ?_
  refine Ops.box (fun β1=>?_)
  refine agb rfl rfl rfl<|pq<|W.seq<|W.region rfl ?_
  refine agY rfl ?_
  refine agX rfl ?_
  refine agb rfl rfl rfl<|pq<|W.ret ?_
  exact uZ rfl
section
variable{main:Side}{fn:FuncId}{m:Nat}{ro:Option Nat}{h:Hp}{Q:Post}{ρ:Env}{ds:List Deferred}{F:eG}{ops:Array Oper}{i:Nat}{rest:List Nat}{d:Tmp}{ty:TypeId}{pos:String}{bK:Array Edge}{g:Option (Nat×Bool)}{L:eG}{y:Operand}{c:Bool}{n:Int}{ts:Array TypeId}
theorem aLW(K:Ops ⟨prog,main,fn,m,ro,h⟩ ops rest Q ((d,I n)::ρ) ds F)(ho:cO ops.toList i=some ⟨some d,.call ⟨.invoke y "muscovado/floor.day", #[],ts⟩,ty,pos,bK,g⟩:=by rfl)(hy:ev ρ y=some (awK (some (c,n))):=by rfl)(hw:want ops ρ ⟨some d,.call ⟨.invoke y "muscovado/floor.day", #[],ts⟩,ty,pos,bK,g⟩:=by first | exact wn | exact ak rfl rfl rfl)(hd:Nat.blt d m=true:=by rfl):Ops ⟨prog,main,fn,m,ro,h⟩ ops (i::rest) Q ρ ds F:=by
  cases c with
  | true=>exact ci (args:=[]) (vs:=[]) (fun h' _ _=>aCS _ h' n) K ho hy rfl hw hd
  | false=>exact ci (args:=[]) (vs:=[]) (fun h' _ _=>aCR _ h' n) K ho hy rfl hw hd
theorem aLX{fuel listed:Nat}(K:Any ⟨prog,main,fn,m,ro,h⟩ ops L fuel (listed||| 2 ^ i) Q ((d,I n)::ρ) ds F)(hS:lastT ops i=true∨Keeps L F)(ho:cO ops.toList i=some ⟨some d,.call ⟨.invoke y "muscovado/floor.day", #[],ts⟩,ty,pos,bK,g⟩:=by rfl)(hy:ev ρ y=some (awK (some (c,n))):=by rfl)
    (hw:dR ops (look ρ) ⟨some d,.call ⟨.invoke y "muscovado/floor.day", #[],ts⟩,ty,pos,bK,g⟩ true:=by first | exact an | exact b_ rfl rfl rfl rfl) (hd:Nat.blt d m=true:=by rfl) (hr:qx ops listed=[i]:=by kernel_rfl):Any ⟨prog,main,fn,m,ro,h⟩ ops L (fuel+1) listed Q ρ ds F:=by
  cases c with
  | true=>exact aci (args:=[]) (vs:=[]) (fun h' _ _=>aCS _ h' n) K hS ho hy rfl hw hd hr
  | false=>exact aci (args:=[]) (vs:=[]) (fun h' _ _=>aCR _ h' n) K hS ho hy rfl hw hd hr
theorem aHn{x:Cx}{S:eG→Prop}{o:Oper}{t t':TypeId}{ms:Array (String×TypeId)}{y:Operand}{fd:ayl}(ho:o.op= .binOp .eql t y (.const .nilIface) t')[TD x.P t (.interface ms)](hy:ev ρ y=some (awK fd)):Yv x S ρ o (.bool fd.isNone):=by
  rcases fd with _ | ⟨_ | _,n⟩
  · exact abK ho hy
  · exact Xz ho hy
  · exact Xz ho hy
end
theorem aAc{pl:Int}:∀{d:List Sp} {k j:Nat},k≤d.length→(∀i,i<k→∀s,d[i]? =some s→¬pl<s.hi)→ayi pl d j=ayi pl (d.drop k) (j+k)
  | d,0,j,_,_=>rfl
  | [],k+1,j,h,_=>by simp at h
  | s::d,k+1,j,h,hn=>by
    have h0:=hn 0 (by omega) s rfl
    simp only[ayi,if_neg h0,List.drop_succ_cons]
    rw[aAc (k:=k) (j:=j+1) (by simpa using h) fun i hi s hs=>hn (i+1) (by omega) s (by simpa using hs)]
    congr 1;omega

theorem aJ0(main:Side)(h:Hp)(fs:List Fl)(ss:List St)(p:List Be)(f:Int)(vf vs:Value)(hf:Sl h Fl.row vf fs)(hs:Sl h St.row vs ss)(hall:Ju fs ss)(hp:axb fs ss p)(hf0:0≤f)(hf1:f<fs.length):Pu prog main aAq #[.agg #[vf,vs],adu p,I f] h (awK (aA_ fs ss p f)):=by
  obtain⟨a,cap,rfl⟩:=hf.dA
  obtain⟨a',cap',rfl⟩:=hs.dA
  obtain⟨fl,hfl,-⟩:=has (show f.toNat<fs.length by omega)
  have hfe:Wy fs f=fl:=by simp[Wy,List.getD,hfl]
  have aMV:=hall.fl fl (List.mem_of_getElem? hfl)
  obtain⟨b,off,c,E,fz,rfl,hb,hx,hy,hz⟩:=hf.at hfl
  have hz0:c[off+f.toNat*4+0]? =some (I fl.pl):=hz 0 (by decide)
  have hz1:c[off+f.toNat*4+1+0]? =some (I fl.lo):=hz 1 (by decide)
  have hz3:c[off+f.toNat*4+3]? =some (I fl.co):=hz 3 (by decide)
  have hsz:=ay0 hp.ok
  obtain⟨D,hD⟩:∃D,D=aw4 fs ss p f:=⟨_,rfl⟩
  have hDl:D.length=22:=by rw[hD];exact azp
  have hDs:=aDn hDl
  have hDo:ones (flat Sp.row D).toArray.toList=true:=by simpa using Lu _
  refine dV.aG aCO rfl (by show 3≤90;decide) [(0,.agg #[.slice (some ⟨b,off,none⟩) fs.length cap,.slice a' ss.length cap']),(1,adu p),(2,I f)] ⟨rfl,rfl,rfl,trivial⟩ ?_
  refine W.seq<|W.region rfl ?_
  refine Ops.box (fun uU=>?_)
  refine Ops.box (fun wC=>?_)
  refine Ops.box (fun mZ=>?_)
  refine agb rfl rfl rfl<|pq<|W.seq<|W.region rfl ?_
  first | refine ag2 rfl ?_ | refine agW (ady rfl rfl) rfl ?_
  first | refine ag2 rfl ?_ | refine agW (ady rfl rfl) rfl ?_
  refine agX rfl ?_
  refine cp (fun h' hE hL=>aFp _ h' fs ss p f _ _ (hf.ext hE) (hs.ext hE) hall hp hf0 hf1) ?_
  rw[←hD]
  refine Ops.new (fun Vo=>?_)
  first | refine Ops.jP ?_ | refine Ops.nY ?_
  refine pq<|W.seq<|W.region rfl ?_
  refine Ops.new (fun yD=>?_)
  refine pq<|W.seq<|W.seq<|W.region rfl ?_
  first | refine ag2 rfl ?_ | refine agW (ady rfl rfl) rfl ?_
  refine qm rfl rfl rfl<|pq<|W.block ?_
  refine W.loop (σ:=Nat) (fun k=>k≤22∧∀i,i<k→∀s,D[i]? =some s→¬fl.pl<s.hi) (fun k=>[(19,I k),(18,aI5 D),(8,.pointer (some ⟨yD,0,none⟩)),(7,.pointer (some ⟨Vo,0,none⟩)),(5,.pointer (some ⟨mZ,0,none⟩)),(4,.pointer (some ⟨wC,0,none⟩)),(3,.pointer (some ⟨uU,0,none⟩))]) (fun _=>[(yD,.cells #[.nilIface] aA3 (0,0)),(Vo,.cells (flat Sp.row D).toArray aFV (0,0)),(mZ,.cells #[I f] dL (0,0)),(wC,.cells (flat Be.row p).toArray zl (0,0)),(uU,.cells #[.slice (some ⟨b,off,none⟩) fs.length cap,.slice a' ss.length cap'] azt (0,0))]) (fun k=>22-k) 0 ⟨Nat.zero_le _,fun i hi=>absurd hi (Nat.not_lt_zero _)⟩ ⟨rfl,rfl,rfl,rfl,rfl,rfl,rfl,trivial⟩ TW ?_
  rintro k ⟨hk,hn⟩
  refine W.seq<|W.region rfl ?_
  refine agW (fO rfl rfl rfl) rfl ?_
  refine pq<|W.seq ?_
  refine W.bC rfl (fun c20=>?_) (fun c20=>?_)
  · obtain⟨s,hsk,hdr⟩:=has (show k<D.length by omega)
    have hex:(flat Sp.row D).toArray.extract ((k:Int).toNat*2) ((k:Int).toNat*2+2)= #[I s.lo,I s.hi]:=aHH hsk
    refine W.skip<|aA<|W.seq<|W.block<|W.seq<|W.region rfl<|qm rfl rfl rfl ?_
    first | refine agW (Ti rfl rfl rfl (by omega) (by omega) (by first | assumption | rfl)) rfl ?_ | refine agW (Ws rfl rfl rfl (by omega) (by omega) (by first | assumption | rfl)) rfl ?_
    refine Ops.new (fun Oj=>?_)
    refine agb rfl rfl rfl ?_
    first | refine Ops.jP ?_ | refine Ops.nY ?_
    refine pq<|W.seq ?_
    refine W.rE (n:=10) rfl ?_
    refine dn 0 (ay rfl rfl) rfl ?_
    refine dn 1 (iQ rfl rfl) rfl ?_
    refine dn 2 (ay rfl rfl) rfl ?_
    refine dn 3 (ay rfl rfl) rfl ?_
    refine dn 4 (iQ rfl rfl) rfl ?_
    refine dn 5 (iQ rfl rfl) rfl ?_
    first | refine dn 6 (G_ rfl rfl rfl) rfl ?_ | refine dn 6 (o_ rfl rfl rfl) rfl ?_
    refine dn 7 (ay rfl rfl) rfl ?_
    refine dn 8 (iQ rfl rfl) rfl ?_
    refine dn 9 (rC rfl rfl rfl) rfl ?_
    refine az ?_
    refine aA ?_
    refine W.bC rfl (fun c32=>?_) (fun c32=>?_)
    · refine W.seq<|W.region rfl<|qm rfl rfl rfl ?_
      refine agW (eH rfl rfl rfl) rfl ?_
      first | refine agW (ZK rfl rfl) rfl ?_ | refine agW (yfc rfl rfl) rfl ?_
      refine Ops.yG ?_
      refine pq<|W.exit<|Tt<|bP<|bP<|gG<|aA<|W.seq ?_
      have hff:∃fd,ayi fl.pl D 0=fd:=⟨_,rfl⟩
      obtain⟨fd,hff⟩:=hff
      refine W.sb (F':=[(yD,.cells #[awK fd] aA3 (0,0)),(mZ,.cells #[I f] dL (0,0)),(wC,.cells (flat Be.row p).toArray zl (0,0)),(uU,.cells #[.slice (some ⟨b,off,none⟩) fs.length cap,.slice a' ss.length cap'] azt (0,0))]) ?_ ?_
      · first
        | (
           have e:fd=some (false,(k:Int)):=by
             rw[←hff,aAc (k:=k) (by omega) hn,hdr];simp only[ayi];rw[if_pos c32];simp
           rw[e];exact TW)
        | (
           have e:fd=none:=by
             rw[←hff,aAc (k:=k) (by omega) hn,show k=D.length by omega];simp[ayi]
           rw[e];exact TW)
      refine W.region rfl ?_
      refine Ops.new (fun KY=>?_)
      refine Ops.yG ?_
      refine pq<|W.seq<|W.seq<|W.region rfl ?_
      first | refine ag2 rfl ?_ | refine agW (ady rfl rfl) rfl ?_
      first | refine ag2 rfl ?_ | refine agW (ady rfl rfl) rfl ?_
      refine agX rfl ?_
      refine c0 (fun h' hE hL=>aHl _ h' p f _ _ rfl rfl) (fun v A' hv=>?_)
      obtain⟨b4,b5,b3,rfl,rfl⟩:=hv
      refine pq<|W.block ?_
      refine W.range (σ:=ayl×Int) (X:=Int) (enc:=I) (xs:=JL p f) rfl rfl rfl (fun s i=>aAM fl.co fl.lo (dayOf p i) s) (fun _ _=>none) (fun s A=>A=[(KY,.cells #[I s.2] dL (0,0)),(yD,.cells #[awK s.1] aA3 (0,0))]) (fd,-1) (A₀:=[(KY,.cells #[I (-1)] dL (0,0)),(yD,.cells #[awK fd] aA3 (0,0))]) (.tail (.tail (.tail .head))) rfl (fun h' hE hL=>aDC _ h' p hp.ok f b4 b5 _ _ _ _ (hL b4 _ (by repeat(first | exact List.Mem.head _ | apply List.Mem.tail))) (hL b5 _ (by repeat(first | exact List.Mem.head _ | apply List.Mem.tail)))) (fun _ _ _ e=>by cases e) ?_ ?_
      · rintro⟨fd1,u⟩ i A hi rfl l h1- -
        dsimp only
        refine W.region rfl<|agb rfl rfl rfl<|Ops.nil ?_
        refine⟨rfl,rfl,fun h1 hE1 hL1=>?_⟩
        have h5':h1 mZ=some (.cells #[I f] dL (0,0)):=hL1 _ _ (by repeat(first | exact List.Mem.head _ | apply List.Mem.tail))
        have h4':h1 wC=some (.cells (flat Be.row p).toArray zl (0,0)):=hL1 _ _ (by repeat(first | exact List.Mem.head _ | apply List.Mem.tail))
        have h3':h1 uU=some (.cells #[.slice (some ⟨b,off,none⟩) fs.length cap,.slice a' ss.length cap'] azt (0,0)):=hL1 _ _ (by repeat(first | exact List.Mem.head _ | apply List.Mem.tail))
        have hb':h1 b=some (.cells c E fz):=hE1.1 _ _ hb
        clear hL1 hE1
        have hi4:=aFW hi
        have aIh:(flat Be.row p).toArray[0+i.toNat*2+1]? =some (I (dayOf p i)):=by have:=(aD3 hp.ok (i:=i.toNat) (by omega)).2;simpa[dayOf]using this
        have aLU:0≤dayOf p i∧dayOf p i≤17:=(aw8 hp.ok (i:=i.toNat) (by omega)).2.2.2
        refine W.block<|W.seq<|W.seq ?_
        refine W.rE (n:=10) rfl ?_
        refine dn 0 (iQ rfl rfl) rfl ?_
        refine dn 1 (ay rfl rfl) rfl ?_
        refine dn 2 (ay rfl rfl) rfl ?_
        refine dn 3 (iQ rfl rfl) rfl ?_
        refine dn 4 (iQ rfl rfl) rfl ?_
        first | refine dn 5 (G_ rfl rfl rfl) rfl ?_ | refine dn 5 (o_ rfl rfl rfl) rfl ?_
        refine dn 6 (ay rfl rfl) rfl ?_
        refine dn 7 (iQ rfl rfl) rfl ?_
        first | refine dn 8 (Zi rfl rfl rfl) rfl ?_ | refine dn 8 (MZ rfl rfl rfl) rfl ?_
        refine dn 9 (jS rfl rfl) rfl ?_
        refine az ?_
        refine aA<|W.seq<|W.region rfl ?_
        refine agX rfl ?_
        refine agW (IJ rfl rfl rfl) rfl ?_
        refine qm rfl rfl rfl ?_
        refine Ops.ask (fun agN=>?_) (fun agN=>?_)
        · refine oq (aN rfl rfl) rfl (ak rfl rfl rfl) rfl rfl ?_
          first | refine oq (UN rfl rfl rfl) rfl (ak rfl rfl rfl) rfl rfl ?_ | refine oq (Qg rfl rfl rfl) rfl (ak rfl rfl rfl) rfl rfl ?_
          refine oq (ay rfl rfl) rfl (ak rfl rfl rfl) rfl rfl ?_
          refine oq (iQ rfl rfl) rfl (ak rfl rfl rfl) rfl rfl ?_
          refine oq (aN rfl rfl) rfl (ak rfl rfl rfl) rfl rfl ?_
          refine oq (rC rfl rfl rfl) rfl (ak rfl rfl rfl) rfl rfl ?_
          refine agW (dG rfl rfl rfl) rfl ?_
          refine qm rfl rfl rfl ?_
          refine Ops.ask (fun aze=>?_) (fun aze=>?_)
          · refine oq (iQ rfl rfl) rfl (ak rfl rfl rfl) rfl rfl ?_
            refine oq (aHn rfl rfl) rfl (ak rfl rfl rfl) rfl rfl ?_
            refine oq (aN rfl rfl) rfl (ak rfl rfl rfl) rfl rfl ?_
            refine Ops.RV (fun ay7=>?_) (fun ay7=>?_)
            · refine Ops.no ?_
              refine Ops.no ?_
              refine Ops.no ?_
              refine Ops.no ?_
              refine oq (dG rfl rfl rfl) rfl (ak rfl rfl rfl) rfl rfl ?_
              refine agW (dG rfl rfl rfl) rfl ?_
              refine pq ?_
              refine W.dW ?_
              first
              | have hea:early (aAz u fl.co) fd1=true:=aA4 ay7
              | have hea:early (aAz u fl.co) (some (cc,n1))=true:=aA5 c70
              refine W.region rfl<|qm rfl rfl rfl ?_
              refine agW (eH rfl rfl rfl) rfl ?_
              first | refine agW (ZK rfl rfl) rfl ?_ | refine agW (yfc rfl rfl) rfl ?_
              refine Ops.yG ?_
              refine pq ?_
              refine W.rE (n:=16) rfl ?_
              refine dn 0 (iQ rfl rfl) rfl ?_
              refine dn 1 (aN rfl rfl) rfl ?_
              first | refine dn 2 (UN rfl rfl rfl) rfl ?_ | refine dn 2 (Qg rfl rfl rfl) rfl ?_
              refine dn 3 (ay rfl rfl) rfl ?_
              refine dn 4 (iQ rfl rfl) rfl ?_
              refine dn 5 (ay rfl rfl) rfl ?_
              refine dn 6 (ay rfl rfl) rfl ?_
              refine dn 7 (iQ rfl rfl) rfl ?_
              refine dn 8 (iQ rfl rfl) rfl ?_
              first | refine dn 9 (G_ rfl rfl rfl) rfl ?_ | refine dn 9 (o_ rfl rfl rfl) rfl ?_
              refine dn 10 (ay rfl rfl) rfl ?_
              refine dn 11 (ay rfl rfl) rfl ?_
              refine dn 12 (iQ rfl rfl) rfl ?_
              first | refine dn 13 (Zi rfl rfl rfl) rfl ?_ | refine dn 13 (MZ rfl rfl rfl) rfl ?_
              refine dn 14 (y8 rfl rfl rfl) rfl ?_
              refine ae (i:=15) rfl an rfl rfl (eS rfl rfl rfl ?_)
              refine⟨.inl (by kernel_rfl),?_⟩
              refine az ?_
              refine dI ?_
              refine⟨rfl,rfl,_,rfl,?_⟩
              have e:=aB5 (lo:=fl.lo) agN aze hea
              rw[e];exact TW
            · obtain⟨⟨cc,n1⟩,rfl⟩:∃q,fd1=some q:=by
                cases fd1 with
                | none=>simp at ay7
                | some q=>exact⟨q,rfl⟩
              refine oq (aN rfl rfl) rfl (ak rfl rfl rfl) rfl rfl ?_
              refine oq (iQ rfl rfl) rfl (ak rfl rfl rfl) rfl rfl ?_
              refine aLW ?_
              refine oq (fO rfl rfl rfl) rfl (ak rfl rfl rfl) rfl rfl ?_
              refine oq (iH rfl rfl rfl) rfl (ak rfl rfl rfl) rfl rfl ?_
              refine agW (dG rfl rfl rfl) rfl ?_
              refine pq ?_
              refine W.bC rfl (fun c70=>?_) (fun c70=>?_)
              · first
                | have hea:early (aAz u fl.co) fd1=true:=aA4 ay7
                | have hea:early (aAz u fl.co) (some (cc,n1))=true:=aA5 c70
                refine W.region rfl<|qm rfl rfl rfl ?_
                refine agW (eH rfl rfl rfl) rfl ?_
                first | refine agW (ZK rfl rfl) rfl ?_ | refine agW (yfc rfl rfl) rfl ?_
                refine Ops.yG ?_
                refine pq ?_
                refine W.rE (n:=16) rfl ?_
                refine dn 0 (iQ rfl rfl) rfl ?_
                refine dn 1 (aN rfl rfl) rfl ?_
                first | refine dn 2 (UN rfl rfl rfl) rfl ?_ | refine dn 2 (Qg rfl rfl rfl) rfl ?_
                refine dn 3 (ay rfl rfl) rfl ?_
                refine dn 4 (iQ rfl rfl) rfl ?_
                refine dn 5 (ay rfl rfl) rfl ?_
                refine dn 6 (ay rfl rfl) rfl ?_
                refine dn 7 (iQ rfl rfl) rfl ?_
                refine dn 8 (iQ rfl rfl) rfl ?_
                first | refine dn 9 (G_ rfl rfl rfl) rfl ?_ | refine dn 9 (o_ rfl rfl rfl) rfl ?_
                refine dn 10 (ay rfl rfl) rfl ?_
                refine dn 11 (ay rfl rfl) rfl ?_
                refine dn 12 (iQ rfl rfl) rfl ?_
                first | refine dn 13 (Zi rfl rfl rfl) rfl ?_ | refine dn 13 (MZ rfl rfl rfl) rfl ?_
                refine dn 14 (y8 rfl rfl rfl) rfl ?_
                refine ae (i:=15) rfl an rfl rfl (eS rfl rfl rfl ?_)
                refine⟨.inl (by kernel_rfl),?_⟩
                refine az ?_
                refine dI ?_
                refine⟨rfl,rfl,_,rfl,?_⟩
                have e:=aB5 (lo:=fl.lo) agN aze hea
                rw[e];exact TW
              · refine W.skip<|aA ?_
                refine W.rE (n:=16) rfl ?_
                refine dn 0 (iQ rfl rfl) rfl ?_
                refine dn 1 (aN rfl rfl) rfl ?_
                first | refine dn 2 (UN rfl rfl rfl) rfl ?_ | refine dn 2 (Qg rfl rfl rfl) rfl ?_
                refine dn 3 (ay rfl rfl) rfl ?_
                refine dn 4 (iQ rfl rfl) rfl ?_
                refine dn 5 (ay rfl rfl) rfl ?_
                refine dn 6 (ay rfl rfl) rfl ?_
                refine dn 7 (iQ rfl rfl) rfl ?_
                refine dn 8 (iQ rfl rfl) rfl ?_
                first | refine dn 9 (G_ rfl rfl rfl) rfl ?_ | refine dn 9 (o_ rfl rfl rfl) rfl ?_
                refine dn 10 (ay rfl rfl) rfl ?_
                refine dn 11 (ay rfl rfl) rfl ?_
                refine dn 12 (iQ rfl rfl) rfl ?_
                first | refine dn 13 (Zi rfl rfl rfl) rfl ?_ | refine dn 13 (MZ rfl rfl rfl) rfl ?_
                refine dn 14 (y8 rfl rfl rfl) rfl ?_
                refine ae (i:=15) rfl an rfl rfl (eS rfl rfl rfl ?_)
                refine⟨.inl (by kernel_rfl),?_⟩
                refine az ?_
                refine dI ?_
                refine⟨rfl,rfl,_,rfl,?_⟩
                first
                | (
                   have e:=azb (co:=fl.co) (lo:=fl.lo) (day:=dayOf p i) (fd:=fd1) agN
                   rw[e];exact TW)
                | (
                   have e:=azc (lo:=fl.lo) (fd:=fd1) aze
                   rw[e];exact TW)
                | (
                   have e:=azd (lo:=fl.lo) (day:=dayOf p i) (c:=cc) c70
                   rw[e];exact TW)
          · refine Ops.no ?_
            refine Ops.no ?_
            refine Ops.no ?_
            refine Ops.noU ?_
            refine Ops.noU ?_
            refine Ops.noU ?_
            refine Ops.noU ?_
            refine Ops.no ?_
            refine agW (iH rfl rfl rfl) rfl ?_
            refine pq ?_
            refine W.bZ ?_
            refine W.skip<|aA ?_
            refine W.rE (n:=16) rfl ?_
            refine dn 0 (iQ rfl rfl) rfl ?_
            refine dn 1 (aN rfl rfl) rfl ?_
            first | refine dn 2 (UN rfl rfl rfl) rfl ?_ | refine dn 2 (Qg rfl rfl rfl) rfl ?_
            refine dn 3 (ay rfl rfl) rfl ?_
            refine dn 4 (iQ rfl rfl) rfl ?_
            refine dn 5 (ay rfl rfl) rfl ?_
            refine dn 6 (ay rfl rfl) rfl ?_
            refine dn 7 (iQ rfl rfl) rfl ?_
            refine dn 8 (iQ rfl rfl) rfl ?_
            first | refine dn 9 (G_ rfl rfl rfl) rfl ?_ | refine dn 9 (o_ rfl rfl rfl) rfl ?_
            refine dn 10 (ay rfl rfl) rfl ?_
            refine dn 11 (ay rfl rfl) rfl ?_
            refine dn 12 (iQ rfl rfl) rfl ?_
            first | refine dn 13 (Zi rfl rfl rfl) rfl ?_ | refine dn 13 (MZ rfl rfl rfl) rfl ?_
            refine dn 14 (y8 rfl rfl rfl) rfl ?_
            refine ae (i:=15) rfl an rfl rfl (eS rfl rfl rfl ?_)
            refine⟨.inl (by kernel_rfl),?_⟩
            refine az ?_
            refine dI ?_
            refine⟨rfl,rfl,_,rfl,?_⟩
            first
            | (
               have e:=azb (co:=fl.co) (lo:=fl.lo) (day:=dayOf p i) (fd:=fd1) agN
               rw[e];exact TW)
            | (
               have e:=azc (lo:=fl.lo) (fd:=fd1) aze
               rw[e];exact TW)
            | (
               have e:=azd (lo:=fl.lo) (day:=dayOf p i) (c:=cc) c70
               rw[e];exact TW)
        · refine Ops.no ?_
          refine Ops.no ?_
          refine Ops.no ?_
          refine Ops.no ?_
          refine Ops.no ?_
          refine Ops.no ?_
          refine agW (iH rfl rfl rfl) rfl ?_
          refine qm rfl rfl rfl ?_
          refine Ops.no ?_
          refine Ops.no ?_
          refine Ops.no ?_
          refine Ops.noU ?_
          refine Ops.noU ?_
          refine Ops.noU ?_
          refine Ops.noU ?_
          refine Ops.no ?_
          refine agW (iH rfl rfl rfl) rfl ?_
          refine pq ?_
          refine W.bZ ?_
          refine W.skip<|aA ?_
          refine W.rE (n:=16) rfl ?_
          refine dn 0 (iQ rfl rfl) rfl ?_
          refine dn 1 (aN rfl rfl) rfl ?_
          first | refine dn 2 (UN rfl rfl rfl) rfl ?_ | refine dn 2 (Qg rfl rfl rfl) rfl ?_
          refine dn 3 (ay rfl rfl) rfl ?_
          refine dn 4 (iQ rfl rfl) rfl ?_
          refine dn 5 (ay rfl rfl) rfl ?_
          refine dn 6 (ay rfl rfl) rfl ?_
          refine dn 7 (iQ rfl rfl) rfl ?_
          refine dn 8 (iQ rfl rfl) rfl ?_
          first | refine dn 9 (G_ rfl rfl rfl) rfl ?_ | refine dn 9 (o_ rfl rfl rfl) rfl ?_
          refine dn 10 (ay rfl rfl) rfl ?_
          refine dn 11 (ay rfl rfl) rfl ?_
          refine dn 12 (iQ rfl rfl) rfl ?_
          first | refine dn 13 (Zi rfl rfl rfl) rfl ?_ | refine dn 13 (MZ rfl rfl rfl) rfl ?_
          refine dn 14 (y8 rfl rfl rfl) rfl ?_
          refine ae (i:=15) rfl an rfl rfl (eS rfl rfl rfl ?_)
          refine⟨.inl (by kernel_rfl),?_⟩
          refine az ?_
          refine dI ?_
          refine⟨rfl,rfl,_,rfl,?_⟩
          first
          | (
             have e:=azb (co:=fl.co) (lo:=fl.lo) (day:=dayOf p i) (fd:=fd1) agN
             rw[e];exact TW)
          | (
             have e:=azc (lo:=fl.lo) (fd:=fd1) aze
             rw[e];exact TW)
          | (
             have e:=azd (lo:=fl.lo) (day:=dayOf p i) (c:=cc) c70
             rw[e];exact TW)
      · intro s e A he hA dd
        rw[aDo]at he
        cases he
        subst hA
        refine dI<|aA<|W.seq<|W.region rfl ?_
        refine agX rfl ?_
        refine agb rfl rfl rfl<|pq<|W.ret ?_
        refine lvm (hl:=At.head) (uZ ?_)
        simp only[aA_,hfe,←hD,hff]
        rfl
    · refine W.skip<|dI<|aA<|W.region rfl ?_
      refine ag1 rfl ?_
      refine qm rfl rfl rfl<|pq ?_
      refine⟨rfl,k+1,⟨by omega,fun i hi s' hs'=>?_⟩,by omega,⟨rfl,rfl,rfl,rfl,rfl,rfl,rfl,trivial⟩,TW⟩
      rcases(by omega:i<k∨i=k)with hi | rfl
      · exact hn i hi s' hs'
      · rw[hsk]at hs';cases hs';exact c32
  · refine W.exit<|bP<|bP<|gG<|aA<|W.seq ?_
    have hff:∃fd,ayi fl.pl D 0=fd:=⟨_,rfl⟩
    obtain⟨fd,hff⟩:=hff
    refine W.sb (F':=[(yD,.cells #[awK fd] aA3 (0,0)),(mZ,.cells #[I f] dL (0,0)),(wC,.cells (flat Be.row p).toArray zl (0,0)),(uU,.cells #[.slice (some ⟨b,off,none⟩) fs.length cap,.slice a' ss.length cap'] azt (0,0))]) ?_ ?_
    · first
      | (
         have e:fd=some (false,(k:Int)):=by
           rw[←hff,aAc (k:=k) (by omega) hn,hdr];simp only[ayi];rw[if_pos c32];simp
         rw[e];exact TW)
      | (
         have e:fd=none:=by
           rw[←hff,aAc (k:=k) (by omega) hn,show k=D.length by omega];simp[ayi]
         rw[e];exact TW)
    refine W.region rfl ?_
    refine Ops.new (fun KY=>?_)
    refine Ops.yG ?_
    refine pq<|W.seq<|W.seq<|W.region rfl ?_
    first | refine ag2 rfl ?_ | refine agW (ady rfl rfl) rfl ?_
    first | refine ag2 rfl ?_ | refine agW (ady rfl rfl) rfl ?_
    refine agX rfl ?_
    refine c0 (fun h' hE hL=>aHl _ h' p f _ _ rfl rfl) (fun v A' hv=>?_)
    obtain⟨b4,b5,b3,rfl,rfl⟩:=hv
    refine pq<|W.block ?_
    refine W.range (σ:=ayl×Int) (X:=Int) (enc:=I) (xs:=JL p f) rfl rfl rfl (fun s i=>aAM fl.co fl.lo (dayOf p i) s) (fun _ _=>none) (fun s A=>A=[(KY,.cells #[I s.2] dL (0,0)),(yD,.cells #[awK s.1] aA3 (0,0))]) (fd,-1) (A₀:=[(KY,.cells #[I (-1)] dL (0,0)),(yD,.cells #[awK fd] aA3 (0,0))]) (.tail (.tail (.tail .head))) rfl (fun h' hE hL=>aDC _ h' p hp.ok f b4 b5 _ _ _ _ (hL b4 _ (by repeat(first | exact List.Mem.head _ | apply List.Mem.tail))) (hL b5 _ (by repeat(first | exact List.Mem.head _ | apply List.Mem.tail)))) (fun _ _ _ e=>by cases e) ?_ ?_
    · rintro⟨fd1,u⟩ i A hi rfl l h1- -
      dsimp only
      refine W.region rfl<|agb rfl rfl rfl<|Ops.nil ?_
      refine⟨rfl,rfl,fun h1 hE1 hL1=>?_⟩
      have h5':h1 mZ=some (.cells #[I f] dL (0,0)):=hL1 _ _ (by repeat(first | exact List.Mem.head _ | apply List.Mem.tail))
      have h4':h1 wC=some (.cells (flat Be.row p).toArray zl (0,0)):=hL1 _ _ (by repeat(first | exact List.Mem.head _ | apply List.Mem.tail))
      have h3':h1 uU=some (.cells #[.slice (some ⟨b,off,none⟩) fs.length cap,.slice a' ss.length cap'] azt (0,0)):=hL1 _ _ (by repeat(first | exact List.Mem.head _ | apply List.Mem.tail))
      have hb':h1 b=some (.cells c E fz):=hE1.1 _ _ hb
      clear hL1 hE1
      have hi4:=aFW hi
      have aIh:(flat Be.row p).toArray[0+i.toNat*2+1]? =some (I (dayOf p i)):=by have:=(aD3 hp.ok (i:=i.toNat) (by omega)).2;simpa[dayOf]using this
      have aLU:0≤dayOf p i∧dayOf p i≤17:=(aw8 hp.ok (i:=i.toNat) (by omega)).2.2.2
      refine W.block<|W.seq<|W.seq ?_
      refine W.rE (n:=10) rfl ?_
      refine dn 0 (iQ rfl rfl) rfl ?_
      refine dn 1 (ay rfl rfl) rfl ?_
      refine dn 2 (ay rfl rfl) rfl ?_
      refine dn 3 (iQ rfl rfl) rfl ?_
      refine dn 4 (iQ rfl rfl) rfl ?_
      first | refine dn 5 (G_ rfl rfl rfl) rfl ?_ | refine dn 5 (o_ rfl rfl rfl) rfl ?_
      refine dn 6 (ay rfl rfl) rfl ?_
      refine dn 7 (iQ rfl rfl) rfl ?_
      first | refine dn 8 (Zi rfl rfl rfl) rfl ?_ | refine dn 8 (MZ rfl rfl rfl) rfl ?_
      refine dn 9 (jS rfl rfl) rfl ?_
      refine az ?_
      refine aA<|W.seq<|W.region rfl ?_
      refine agX rfl ?_
      refine agW (IJ rfl rfl rfl) rfl ?_
      refine qm rfl rfl rfl ?_
      refine Ops.ask (fun agN=>?_) (fun agN=>?_)
      · refine oq (aN rfl rfl) rfl (ak rfl rfl rfl) rfl rfl ?_
        first | refine oq (UN rfl rfl rfl) rfl (ak rfl rfl rfl) rfl rfl ?_ | refine oq (Qg rfl rfl rfl) rfl (ak rfl rfl rfl) rfl rfl ?_
        refine oq (ay rfl rfl) rfl (ak rfl rfl rfl) rfl rfl ?_
        refine oq (iQ rfl rfl) rfl (ak rfl rfl rfl) rfl rfl ?_
        refine oq (aN rfl rfl) rfl (ak rfl rfl rfl) rfl rfl ?_
        refine oq (rC rfl rfl rfl) rfl (ak rfl rfl rfl) rfl rfl ?_
        refine agW (dG rfl rfl rfl) rfl ?_
        refine qm rfl rfl rfl ?_
        refine Ops.ask (fun aze=>?_) (fun aze=>?_)
        · refine oq (iQ rfl rfl) rfl (ak rfl rfl rfl) rfl rfl ?_
          refine oq (aHn rfl rfl) rfl (ak rfl rfl rfl) rfl rfl ?_
          refine oq (aN rfl rfl) rfl (ak rfl rfl rfl) rfl rfl ?_
          refine Ops.RV (fun ay7=>?_) (fun ay7=>?_)
          · refine Ops.no ?_
            refine Ops.no ?_
            refine Ops.no ?_
            refine Ops.no ?_
            refine oq (dG rfl rfl rfl) rfl (ak rfl rfl rfl) rfl rfl ?_
            refine agW (dG rfl rfl rfl) rfl ?_
            refine pq ?_
            refine W.dW ?_
            first
            | have hea:early (aAz u fl.co) fd1=true:=aA4 ay7
            | have hea:early (aAz u fl.co) (some (cc,n1))=true:=aA5 c70
            refine W.region rfl<|qm rfl rfl rfl ?_
            refine agW (eH rfl rfl rfl) rfl ?_
            first | refine agW (ZK rfl rfl) rfl ?_ | refine agW (yfc rfl rfl) rfl ?_
            refine Ops.yG ?_
            refine pq ?_
            refine W.rE (n:=16) rfl ?_
            refine dn 0 (iQ rfl rfl) rfl ?_
            refine dn 1 (aN rfl rfl) rfl ?_
            first | refine dn 2 (UN rfl rfl rfl) rfl ?_ | refine dn 2 (Qg rfl rfl rfl) rfl ?_
            refine dn 3 (ay rfl rfl) rfl ?_
            refine dn 4 (iQ rfl rfl) rfl ?_
            refine dn 5 (ay rfl rfl) rfl ?_
            refine dn 6 (ay rfl rfl) rfl ?_
            refine dn 7 (iQ rfl rfl) rfl ?_
            refine dn 8 (iQ rfl rfl) rfl ?_
            first | refine dn 9 (G_ rfl rfl rfl) rfl ?_ | refine dn 9 (o_ rfl rfl rfl) rfl ?_
            refine dn 10 (ay rfl rfl) rfl ?_
            refine dn 11 (ay rfl rfl) rfl ?_
            refine dn 12 (iQ rfl rfl) rfl ?_
            first | refine dn 13 (Zi rfl rfl rfl) rfl ?_ | refine dn 13 (MZ rfl rfl rfl) rfl ?_
            refine dn 14 (y8 rfl rfl rfl) rfl ?_
            refine ae (i:=15) rfl an rfl rfl (eS rfl rfl rfl ?_)
            refine⟨.inl (by kernel_rfl),?_⟩
            refine az ?_
            refine dI ?_
            refine⟨rfl,rfl,_,rfl,?_⟩
            have e:=aB5 (lo:=fl.lo) agN aze hea
            rw[e];exact TW
          · obtain⟨⟨cc,n1⟩,rfl⟩:∃q,fd1=some q:=by
              cases fd1 with
              | none=>simp at ay7
              | some q=>exact⟨q,rfl⟩
            refine oq (aN rfl rfl) rfl (ak rfl rfl rfl) rfl rfl ?_
            refine oq (iQ rfl rfl) rfl (ak rfl rfl rfl) rfl rfl ?_
            refine aLW ?_
            refine oq (fO rfl rfl rfl) rfl (ak rfl rfl rfl) rfl rfl ?_
            refine oq (iH rfl rfl rfl) rfl (ak rfl rfl rfl) rfl rfl ?_
            refine agW (dG rfl rfl rfl) rfl ?_
            refine pq ?_
            refine W.bC rfl (fun c70=>?_) (fun c70=>?_)
            · first
              | have hea:early (aAz u fl.co) fd1=true:=aA4 ay7
              | have hea:early (aAz u fl.co) (some (cc,n1))=true:=aA5 c70
              refine W.region rfl<|qm rfl rfl rfl ?_
              refine agW (eH rfl rfl rfl) rfl ?_
              first | refine agW (ZK rfl rfl) rfl ?_ | refine agW (yfc rfl rfl) rfl ?_
              refine Ops.yG ?_
              refine pq ?_
              refine W.rE (n:=16) rfl ?_
              refine dn 0 (iQ rfl rfl) rfl ?_
              refine dn 1 (aN rfl rfl) rfl ?_
              first | refine dn 2 (UN rfl rfl rfl) rfl ?_ | refine dn 2 (Qg rfl rfl rfl) rfl ?_
              refine dn 3 (ay rfl rfl) rfl ?_
              refine dn 4 (iQ rfl rfl) rfl ?_
              refine dn 5 (ay rfl rfl) rfl ?_
              refine dn 6 (ay rfl rfl) rfl ?_
              refine dn 7 (iQ rfl rfl) rfl ?_
              refine dn 8 (iQ rfl rfl) rfl ?_
              first | refine dn 9 (G_ rfl rfl rfl) rfl ?_ | refine dn 9 (o_ rfl rfl rfl) rfl ?_
              refine dn 10 (ay rfl rfl) rfl ?_
              refine dn 11 (ay rfl rfl) rfl ?_
              refine dn 12 (iQ rfl rfl) rfl ?_
              first | refine dn 13 (Zi rfl rfl rfl) rfl ?_ | refine dn 13 (MZ rfl rfl rfl) rfl ?_
              refine dn 14 (y8 rfl rfl rfl) rfl ?_
              refine ae (i:=15) rfl an rfl rfl (eS rfl rfl rfl ?_)
              refine⟨.inl (by kernel_rfl),?_⟩
              refine az ?_
              refine dI ?_
              refine⟨rfl,rfl,_,rfl,?_⟩
              have e:=aB5 (lo:=fl.lo) agN aze hea
              rw[e];exact TW
            · refine W.skip<|aA ?_
              refine W.rE (n:=16) rfl ?_
              refine dn 0 (iQ rfl rfl) rfl ?_
              refine dn 1 (aN rfl rfl) rfl ?_
              first | refine dn 2 (UN rfl rfl rfl) rfl ?_ | refine dn 2 (Qg rfl rfl rfl) rfl ?_
              refine dn 3 (ay rfl rfl) rfl ?_
              refine dn 4 (iQ rfl rfl) rfl ?_
              refine dn 5 (ay rfl rfl) rfl ?_
              refine dn 6 (ay rfl rfl) rfl ?_
              refine dn 7 (iQ rfl rfl) rfl ?_
              refine dn 8 (iQ rfl rfl) rfl ?_
              first | refine dn 9 (G_ rfl rfl rfl) rfl ?_ | refine dn 9 (o_ rfl rfl rfl) rfl ?_
              refine dn 10 (ay rfl rfl) rfl ?_
              refine dn 11 (ay rfl rfl) rfl ?_
              refine dn 12 (iQ rfl rfl) rfl ?_
              first | refine dn 13 (Zi rfl rfl rfl) rfl ?_ | refine dn 13 (MZ rfl rfl rfl) rfl ?_
              refine dn 14 (y8 rfl rfl rfl) rfl ?_
              refine ae (i:=15) rfl an rfl rfl (eS rfl rfl rfl ?_)
              refine⟨.inl (by kernel_rfl),?_⟩
              refine az ?_
              refine dI ?_
              refine⟨rfl,rfl,_,rfl,?_⟩
              first
              | (
                 have e:=azb (co:=fl.co) (lo:=fl.lo) (day:=dayOf p i) (fd:=fd1) agN
                 rw[e];exact TW)
              | (
                 have e:=azc (lo:=fl.lo) (fd:=fd1) aze
                 rw[e];exact TW)
              | (
                 have e:=azd (lo:=fl.lo) (day:=dayOf p i) (c:=cc) c70
                 rw[e];exact TW)
        · refine Ops.no ?_
          refine Ops.no ?_
          refine Ops.no ?_
          refine Ops.noU ?_
          refine Ops.noU ?_
          refine Ops.noU ?_
          refine Ops.noU ?_
          refine Ops.no ?_
          refine agW (iH rfl rfl rfl) rfl ?_
          refine pq ?_
          refine W.bZ ?_
          refine W.skip<|aA ?_
          refine W.rE (n:=16) rfl ?_
          refine dn 0 (iQ rfl rfl) rfl ?_
          refine dn 1 (aN rfl rfl) rfl ?_
          first | refine dn 2 (UN rfl rfl rfl) rfl ?_ | refine dn 2 (Qg rfl rfl rfl) rfl ?_
          refine dn 3 (ay rfl rfl) rfl ?_
          refine dn 4 (iQ rfl rfl) rfl ?_
          refine dn 5 (ay rfl rfl) rfl ?_
          refine dn 6 (ay rfl rfl) rfl ?_
          refine dn 7 (iQ rfl rfl) rfl ?_
          refine dn 8 (iQ rfl rfl) rfl ?_
          first | refine dn 9 (G_ rfl rfl rfl) rfl ?_ | refine dn 9 (o_ rfl rfl rfl) rfl ?_
          refine dn 10 (ay rfl rfl) rfl ?_
          refine dn 11 (ay rfl rfl) rfl ?_
          refine dn 12 (iQ rfl rfl) rfl ?_
          first | refine dn 13 (Zi rfl rfl rfl) rfl ?_ | refine dn 13 (MZ rfl rfl rfl) rfl ?_
          refine dn 14 (y8 rfl rfl rfl) rfl ?_
          refine ae (i:=15) rfl an rfl rfl (eS rfl rfl rfl ?_)
          refine⟨.inl (by kernel_rfl),?_⟩
          refine az ?_
          refine dI ?_
          refine⟨rfl,rfl,_,rfl,?_⟩
          first
          | (
             have e:=azb (co:=fl.co) (lo:=fl.lo) (day:=dayOf p i) (fd:=fd1) agN
             rw[e];exact TW)
          | (
             have e:=azc (lo:=fl.lo) (fd:=fd1) aze
             rw[e];exact TW)
          | (
             have e:=azd (lo:=fl.lo) (day:=dayOf p i) (c:=cc) c70
             rw[e];exact TW)
      · refine Ops.no ?_
        refine Ops.no ?_
        refine Ops.no ?_
        refine Ops.no ?_
        refine Ops.no ?_
        refine Ops.no ?_
        refine agW (iH rfl rfl rfl) rfl ?_
        refine qm rfl rfl rfl ?_
        refine Ops.no ?_
        refine Ops.no ?_
        refine Ops.no ?_
        refine Ops.noU ?_
        refine Ops.noU ?_
        refine Ops.noU ?_
        refine Ops.noU ?_
        refine Ops.no ?_
        refine agW (iH rfl rfl rfl) rfl ?_
        refine pq ?_
        refine W.bZ ?_
        refine W.skip<|aA ?_
        refine W.rE (n:=16) rfl ?_
        refine dn 0 (iQ rfl rfl) rfl ?_
        refine dn 1 (aN rfl rfl) rfl ?_
        first | refine dn 2 (UN rfl rfl rfl) rfl ?_ | refine dn 2 (Qg rfl rfl rfl) rfl ?_
        refine dn 3 (ay rfl rfl) rfl ?_
        refine dn 4 (iQ rfl rfl) rfl ?_
        refine dn 5 (ay rfl rfl) rfl ?_
        refine dn 6 (ay rfl rfl) rfl ?_
        refine dn 7 (iQ rfl rfl) rfl ?_
        refine dn 8 (iQ rfl rfl) rfl ?_
        first | refine dn 9 (G_ rfl rfl rfl) rfl ?_ | refine dn 9 (o_ rfl rfl rfl) rfl ?_
        refine dn 10 (ay rfl rfl) rfl ?_
        refine dn 11 (ay rfl rfl) rfl ?_
        refine dn 12 (iQ rfl rfl) rfl ?_
        first | refine dn 13 (Zi rfl rfl rfl) rfl ?_ | refine dn 13 (MZ rfl rfl rfl) rfl ?_
        refine dn 14 (y8 rfl rfl rfl) rfl ?_
        refine ae (i:=15) rfl an rfl rfl (eS rfl rfl rfl ?_)
        refine⟨.inl (by kernel_rfl),?_⟩
        refine az ?_
        refine dI ?_
        refine⟨rfl,rfl,_,rfl,?_⟩
        first
        | (
           have e:=azb (co:=fl.co) (lo:=fl.lo) (day:=dayOf p i) (fd:=fd1) agN
           rw[e];exact TW)
        | (
           have e:=azc (lo:=fl.lo) (fd:=fd1) aze
           rw[e];exact TW)
        | (
           have e:=azd (lo:=fl.lo) (day:=dayOf p i) (c:=cc) c70
           rw[e];exact TW)
    · intro s e A he hA dd
      rw[aDo]at he
      cases he
      subst hA
      refine dI<|aA<|W.seq<|W.region rfl ?_
      refine agX rfl ?_
      refine agb rfl rfl rfl<|pq<|W.ret ?_
      refine lvm (hl:=At.head) (uZ ?_)
      simp only[aA_,hfe,←hD,hff]
      rfl
end Go.aS

/- Functions of the library without a body: asked of the program's tables. Conditions: none; over any program. -/
namespace Go.aS
def J_{α:Type}(P:Program):Sem α→Option α
 | .pure a=>some a
 | .program k=>J_ P (k P)
 | _=>none
theorem oU{α:Type}{P:Program}{h:Hp}:∀{s:Sem α} {a:α} {F:eG} {Q:α→eG→Prop},J_ P s=some a→Q a F→tr P h s F Q
 | .pure b,a,F,Q,e,H=>by simp only[J_,Option.some.injEq]at e;subst e;exact H
 | .program k,a,F,Q,e,H=>oU (s:=k P) e H
 | .load ..,_,_,_,e,_=>by cases e
 | .store ..,_,_,_,e,_=>by cases e
 | .new ..,_,_,_,e,_=>by cases e
 | .shape ..,_,_,_,e,_=>by cases e
 | .freeze ..,_,_,_,e,_=>by cases e
 | .frozen ..,_,_,_,e,_=>by cases e
 | .getObj ..,_,_,_,e,_=>by cases e
 | .setObj ..,_,_,_,e,_=>by cases e
 | .choose ..,_,_,_,e,_=>by cases e
 | .sys ..,_,_,_,e,_=>by cases e
 | .mark ..,_,_,_,e,_=>by cases e
 | .halt _,_,_,_,e,_=>by cases e

class XF(P:Program)(f:FuncId)(e:outParam (Array Value→Sem Value)):Prop where
 out:∃fn,P.funcs[f]? =some fn∧(fn.name== "runtime.NumGoroutine")=false∧fn.body.isNone=true∧(Extern.findNext fn).isNone=true∧Extern.find fn=some e

theorem PI{P:Program}{main:Side}{h:Hp}{F:eG}{f:FuncId}{e:Array Value→Sem Value}[i:XF P f e]{args:Array Value}{R:Value→eG→Prop}(H:tr P h (e args) F R):tr P h (callFunc f args) F (ni P main h R):=by
 obtain⟨fn,h1,h2,h3,h4,h5⟩:=i.out
 have h4':Extern.findNext fn=none:=by simpa using h4
 simp only[callFunc,bind_eq,gq,l7,h1,h2,h3,h4',h5,Bool.false_eq_true,if_false,if_true]
 refine⟨rfl,?_⟩
 show tr P h ((e args).bind fun v=>.pure (Next.value v)) F (ni P main h R)
 exact bJ (lM H fun v F' r=>r)

section
variable{x:Cx}{Q:Post}{ρ:Env}{ds:List Deferred}{F:eG}{ops:Array Oper}{i:Nat}{rest:List Nat}{d:Tmp}{ty:TypeId}{pos:String}{bK:Array Edge}{g:Option (Nat×Bool)}
variable{args:List Operand}{ts:Array TypeId}{vs:List Value}{f:FuncId}{e:Array Value→Sem Value}{y:Operand}{name:String}{t:TypeId}{u r u':Value}
theorem cx{R:Value→eG→Prop}(H:∀h',Ext x.h h'→tr x.P h' (e vs.toArray) F R)(K:∀v F',R v F'→Ops x ops rest Q ((d,v)::ρ) ds F')(ho:cO ops.toList i=some ⟨some d,.call ⟨.value (.func f),args.toArray,ts⟩,ty,pos,bK,g⟩:=by rfl)[XF x.P f e](hv:evs ρ args=some vs:=by rfl)
  (hw:want ops ρ ⟨some d,.call ⟨.value (.func f),args.toArray,ts⟩,ty,pos,bK,g⟩:=by first | exact wn | exact ak rfl rfl rfl) (hd:Nat.blt d x.n=true:=by rfl):Ops x ops (i::rest) Q ρ ds F:=
 Ops.eff (o:=⟨some d,.call ⟨.value (.func f),args.toArray,ts⟩,ty,pos,bK,g⟩) (fun ee he=>⟨F,[],by simp,fun h' e1 e2=>by
  have e3:ee (.func f)= .func (.func f) #[] #[]:=he _ _ rfl
  simp only[execOp,resolve,Deferred.ofValue,e3,bind_eq,gq,bind_pure,invoke,List.map_toArray,lN he hv,List.append_toArray,List.nil_append,List.append_nil]
  exact PI (lM (H h' e1) fun v F' q=>⟨F',by simp,K v F' q⟩)⟩) (aU ho) hw hd rfl
theorem cxp(hp:J_ x.P (e vs.toArray)=some r)(K:Ops x ops rest Q ((d,r)::ρ) ds F)(ho:cO ops.toList i=some ⟨some d,.call ⟨.value (.func f),args.toArray,ts⟩,ty,pos,bK,g⟩:=by rfl)[XF x.P f e](hv:evs ρ args=some vs:=by rfl)
  (hw:want ops ρ ⟨some d,.call ⟨.value (.func f),args.toArray,ts⟩,ty,pos,bK,g⟩:=by first | exact wn | exact ak rfl rfl rfl) (hd:Nat.blt d x.n=true:=by rfl):Ops x ops (i::rest) Q ρ ds F:=
 cx (R:=fun v F'=>v=r∧F'=F) (fun h' _=>oU hp ⟨rfl,rfl⟩) (fun v F' ⟨h1,h2⟩=>by subst h1 h2;exact K) ho hv hw hd
theorem cix(hm:J_ x.P (method (x.P.types.size+Made.depth) t u name)=some (f,u'))(hp:J_ x.P (e (u'::vs).toArray)=some r)(K:Ops x ops rest Q ((d,r)::ρ) ds F)(ho:cO ops.toList i=some ⟨some d,.call ⟨.invoke y name,args.toArray,ts⟩,ty,pos,bK,g⟩:=by rfl)[XF x.P f e](hy:ev ρ y=some (.iface t u):=by rfl)(hv:evs ρ args=some vs:=by rfl)
  (hw:want ops ρ ⟨some d,.call ⟨.invoke y name,args.toArray,ts⟩,ty,pos,bK,g⟩:=by first | exact wn | exact ak rfl rfl rfl) (hd:Nat.blt d x.n=true:=by rfl):Ops x ops (i::rest) Q ρ ds F:=
 Ops.eff (o:=⟨some d,.call ⟨.invoke y name,args.toArray,ts⟩,ty,pos,bK,g⟩) (fun ee he=>⟨F,[],by simp,fun h' e1 e2=>by
  have e3:((#[Value.iface t u]++vs.toArray)[0]? :Option Value)=some (.iface t u):=by simp
  have e4:(#[Value.iface t u]++vs.toArray).extract 1 (#[Value.iface t u]++vs.toArray).size=vs.toArray:=by
   apply Array.ext'
   simp
  simp only[execOp,resolve,he y _ hy,bind_eq,gq,bind_pure,List.map_toArray,lN he hv,invoke,e3,e4,callMethod,l7]
  refine bJ (oU hm ?_)
  have e5: #[u']++vs.toArray=(u'::vs).toArray:=by simp
  simp only[e5]
  exact PI (oU hp ⟨F,by simp,K⟩)⟩) (aU ho) hw hd rfl
end
end Go.aS

/- errors.As, at the package's own error. Conditions: none; over the given program. -/
namespace Go.aS
set_option maxRecDepth 100000
set_option maxHeartbeats 4000000
open Go.Extern
abbrev Qh:Array Value→Sem Value:=fun args=>ReflectliteValue.unpack (args.getD 0 (.tuple #[]))
abbrev xType:Array Value→Sem Value:=ReflectliteValue.methodAny (ReflectliteValue.valueError "reflectlite.Value.Type" 0) fun t _ _ _=>ReflectliteType.toType t
abbrev X9:Array Value→Sem Value:=ReflectliteValue.method (ReflectliteValue.valueError "reflectlite.Value.IsNil" 0) ReflectliteValue.isNil
abbrev X_:Array Value→Sem Value:=ReflectliteValue.method (ReflectliteValue.valueError "reflectlite.Value.Elem" 0) ReflectliteValue.elem
abbrev adB:Array Value→Sem Value:=ReflectliteType.abiMethod fun t=>do pure (.int .u8 (←Rtype.kind t))
instance:XF prog oD Qh:=⟨oG,xk,by kernel_rfl,by kernel_rfl,by kernel_rfl,by kernel_rfl⟩
instance:XF prog kX xType:=⟨kY,sQ,by kernel_rfl,by kernel_rfl,by kernel_rfl,by kernel_rfl⟩
instance:XF prog kG X9:=⟨kH,rX,by kernel_rfl,by kernel_rfl,by kernel_rfl,by kernel_rfl⟩
instance:XF prog lD X_:=⟨lF,sW,by kernel_rfl,by kernel_rfl,by kernel_rfl,by kernel_rfl⟩
instance:XF prog mJ ReflectliteValue.set:=⟨mM,uQ,by kernel_rfl,by kernel_rfl,by kernel_rfl,by kernel_rfl⟩
instance:XF prog pW ReflectliteType.typeOf:=⟨pX,yO,by kernel_rfl,by kernel_rfl,by kernel_rfl,by kernel_rfl⟩
instance:XF prog iO (ReflectliteType.method ReflectliteType.elem):=⟨lK,tq,by kernel_rfl,by kernel_rfl,by kernel_rfl,by kernel_rfl⟩
instance:XF prog fD (ReflectliteType.relation "Implements" ReflectliteType.implements_):=⟨jf,n_,by kernel_rfl,by kernel_rfl,by kernel_rfl,by kernel_rfl⟩
instance:XF prog eu (ReflectliteType.relation "AssignableTo" ReflectliteType.assignableTo):=⟨iI,mY,by kernel_rfl,by kernel_rfl,by kernel_rfl,by kernel_rfl⟩
instance:XF prog lS adB:=⟨yw,FY,by kernel_rfl,by kernel_rfl,by kernel_rfl,by kernel_rfl⟩

noncomputable abbrev Ur(t:TypeId):Value:=.iface qI (.agg #[typeHandle prog t])
noncomputable abbrev Us(t:TypeId)(a:Addr)(n:Int):Value:=.agg #[typeHandle prog t,.pointer (some a),.int .u64 n]

theorem L_{h:Hp}{F:eG}{t:TypeId}{v:Value}{cs:Array Value}{n:Int}(hc:v.cells=cs)(hm:∀a,J_ prog (ReflectliteValue.mk t a 0)=some (Us t a n)):tr prog h (Qh #[.iface t v]) F (fun r F'=>∃β,r=Us t ⟨β,0,none⟩ n∧F'=(β,.cells cs t (0,0))::F):=by
 show tr prog h (Sem.bind (newVar t v) fun a=>ReflectliteValue.mk t a 0) F _
 simp only[newVar,newRow,bind_eq,gq,bind_assoc,bind_pure,hc]
 exact wI fun r _ _=>oU (hm _) ⟨r,rfl,rfl⟩
theorem Ya{h:Hp}{F:eG}{β b:Nat}{c:Array Value}{E:TypeId}{fz:Nat×Nat}(hl:Look h F β (.cells c E fz))(hc:c[0]? =some (.pointer (some ⟨b,0,none⟩))):tr prog h (X9 #[Us TK ⟨β,0,none⟩ 150]) F (fun r F'=>r= .bool false∧F'=F):=by
 show tr prog h (Sem.bind (ReflectliteValue.parts (Us TK ⟨β,0,none⟩ 150)) _) F _
 refine bJ (oU (a:=some (TK,⟨β,0,none⟩,150)) (by kernel_rfl) ?_)
 show tr prog h (Sem.bind (loadVar TK ⟨β,0,none⟩) _) F _
 exact bJ (uw hl hc ⟨rfl,rfl⟩)
theorem Yb{h:Hp}{F:eG}{β b:Nat}{c:Array Value}{E:TypeId}{fz:Nat×Nat}(hl:Look h F β (.cells c E fz))(hc:c[0]? =some (.pointer (some ⟨b,0,none⟩))):tr prog h (X_ #[Us TK ⟨β,0,none⟩ 150]) F (fun r F'=>r=Us LY ⟨b,0,none⟩ 409∧F'=F):=by
 show tr prog h (Sem.bind (ReflectliteValue.parts (Us TK ⟨β,0,none⟩ 150)) _) F _
 refine bJ (oU (a:=some (TK,⟨β,0,none⟩,150)) (by kernel_rfl) ?_)
 show tr prog h (Sem.bind (loadVar TK ⟨β,0,none⟩) fun v=>Sem.bind (Rtype.elem? TK) fun e=>_) F _
 refine bJ (uw hl hc ?_)
 refine bJ (oU (a:=some LY) (by kernel_rfl) ?_)
 exact oU (a:=Us LY ⟨b,0,none⟩ 409) (by kernel_rfl) ⟨rfl,rfl⟩
theorem abU{h:Hp}{F:eG}{b β:Nat}{c vs:Array Value}{E E':TypeId}{fz:Nat×Nat}{U:Obj→eG}(hl:At b (.cells c E (0,0)) F U)(hc:c.size=2)(hs:Look h F β (.cells vs E' fz))(hn:vs.size=2)(h1:ones vs.toList=true):tr prog h (ReflectliteValue.set #[Us LY ⟨b,0,none⟩ 409,Us LY ⟨β,0,none⟩ 153]) F (fun r F'=>r= .tuple #[]∧F'=U (.cells vs E (0,0))):=by
 show tr prog h (Sem.bind (ReflectliteValue.parts (Us LY ⟨b,0,none⟩ 409)) fun p=>Sem.bind (ReflectliteValue.parts (Us LY ⟨β,0,none⟩ 153)) fun q=>_) F _
 refine bJ (oU (a:=some (LY,⟨b,0,none⟩,409)) (by kernel_rfl) ?_)
 refine bJ (oU (a:=some (LY,⟨β,0,none⟩,153)) (by kernel_rfl) ?_)
 show tr prog h (Sem.bind (loadVar LY ⟨β,0,none⟩) fun val=>Sem.bind (Rtype.directlyAssignable LY LY) fun d=>_) F _
 refine bJ (BM (n:=2) hs (by omega) ?_)
 refine bJ (oU (a:=true) (by kernel_rfl) ?_)
 show tr prog h (Sem.bind (storeVar LY ⟨b,0,none⟩ _) fun _=>.pure (Value.tuple #[])) F _
 have e:vs.extract 0 (0+2)=vs:=by apply Array.ext';simp[←hn]
 have hcs:(Value.agg vs).cells=vs:=rfl
 rw[e]
 simp only[storeVar,bind_eq,gq,bind_assoc,bind_pure,o9,hcs,hn,ne_eq,not_true_eq_false,if_false]
 refine bJ (kV vs.toList 0 c h1 hl (by simp;omega) ⟨rfl,?_⟩)
 rw[Nat.add_zero,IL (by simp;omega)]

theorem adC(main:Side)(h:Hp)(fd:ayl)(fl:Int)(β b1:Nat)(c c1:Array Value)(E1:TypeId)(z1:Nat×Nat)(hc:c.size=2)(h1:h b1=some (.cells c1 E1 z1))(hc1:c1[0]? =some (.pointer (some ⟨β,0,none⟩))):
  dV prog main GN #[.iface LY (.agg #[awK fd,I fl]),.iface TK (.pointer (some ⟨β,0,none⟩)),Us TK ⟨b1,0,none⟩ 150,Ur LY] h [(β,.cells c LY (0,0))] (fun v A=>v= .bool true∧Sb [(β,.cells #[awK fd,I fl] LY (0,0))] A):=by
 have hone:=aHm fd
 refine dV.aG N9 rfl (by show 4≤62;decide) [(0,.iface LY (.agg #[awK fd,I fl])),(1,.iface TK (.pointer (some ⟨β,0,none⟩))),(2,Us TK ⟨b1,0,none⟩ 150),(3,Ur LY)] ⟨rfl,rfl,rfl,rfl,trivial⟩ ?_
 refine W.seq<|W.region rfl ?_
 refine Ops.box (fun yC=>?_)
 refine agb rfl rfl rfl<|pq<|W.block ?_
 refine W.loop (σ:=Unit) (fun _=>True) (fun _=>[(8,.bool false),(6,.pointer (some ⟨yC,0,none⟩)),(0,.iface LY (.agg #[awK fd,I fl])),(1,.iface TK (.pointer (some ⟨β,0,none⟩))),(3,Ur LY)]) (fun _=>[(yC,.cells #[typeHandle prog TK,.pointer (some ⟨b1,0,none⟩),.int .u64 150] BH (0,0)),(β,.cells c LY (0,0))]) (fun _=>0) () trivial ⟨rfl,rfl,rfl,rfl,rfl,trivial⟩ .refl ?_
 rintro⟨⟩ -
 refine W.block<|W.seq<|W.seq<|W.region rfl<|qm rfl rfl rfl ?_
 refine cxp (r:=Ur LY) (by kernel_rfl) ?_
 refine qm rfl rfl rfl ?_
 refine cix (f:=eu) (u':=.agg #[typeHandle prog LY]) (r:=.bool true) (by kernel_rfl) (by kernel_rfl) ?_
 refine pq ?_
 refine W.dW ?_
 refine W.seq<|W.region rfl ?_
 first | refine ag2 rfl ?_ | refine agW (ady rfl rfl) rfl ?_
 refine cx (fun h' hE=>Yb (.inl (hE.1 _ _ h1)) hc1) (fun v F' hv=>?_)
 obtain⟨rfl,rfl⟩:=hv
 refine qm rfl rfl rfl ?_
 refine cx (fun h' hE=>L_ (n:=153) rfl (fun a=>by kernel_rfl)) (fun v F' hv=>?_)
 obtain⟨yR,rfl,rfl⟩:=hv
 refine cx (fun h' hE=>abU (b:=β) (β:=yR) (.tail (.tail .head)) hc (.inr (.head _)) rfl (show(one (awK fd)&&(one (I fl)&&true))=true by rw[hone];rfl)) (fun v F' hv=>?_)
 obtain⟨rfl,rfl⟩:=hv
 refine pq<|W.seq<|W.region rfl<|agb rfl rfl rfl<|pq<|W.ret<|aY<|cZ ?_
 refine aY<|cZ ?_
 exact mg ⟨rfl,TW⟩

theorem adD(main:Side)(h:Hp)(fd:ayl)(fl:Int)(β:Nat)(c:Array Value)(Eg:TypeId)(zg:Nat×Nat)(hc:c.size=2)(hg:h 0=some (.cells #[Ur qM] Eg zg)):
  dV prog main zQ #[.iface LY (.agg #[awK fd,I fl]),.iface TK (.pointer (some ⟨β,0,none⟩))] h [(β,.cells c LY (0,0))] (fun v A=>v= .bool true∧Sb [(β,.cells #[awK fd,I fl] LY (0,0))] A):=by
 refine dV.aG Ep rfl (by show 2≤42;decide) [(0,.iface LY (.agg #[awK fd,I fl])),(1,.iface TK (.pointer (some ⟨β,0,none⟩)))] ⟨rfl,rfl,trivial⟩ ?_
 refine W.seq<|W.region rfl<|agb rfl rfl rfl<|pq<|W.seq<|W.seq<|W.region rfl<|qm rfl rfl rfl ?_
 refine agW (Xz rfl rfl) rfl ?_
 refine pq ?_
 refine W.bZ ?_
 refine W.skip<|aA<|W.seq<|W.seq<|W.region rfl<|qm rfl rfl rfl ?_
 refine agW (Xz rfl rfl) rfl ?_
 refine pq ?_
 refine W.bZ ?_
 refine W.skip<|aA<|W.seq<|W.region rfl<|qm rfl rfl rfl ?_
 refine cx (fun h' hE=>L_ (n:=150) rfl (fun a=>by kernel_rfl)) (fun v F' hv=>?_)
 obtain⟨β1,rfl,rfl⟩:=hv
 refine Ops.new (fun mZ=>?_)
 first | refine Ops.jP ?_ | refine Ops.nY ?_
 refine pq<|W.seq<|W.region rfl ?_
 first | refine ag2 rfl ?_ | refine agW (ady rfl rfl) rfl ?_
 refine cxp (r:=Ur TK) (by kernel_rfl) ?_
 refine agb rfl rfl rfl<|pq<|W.seq<|W.seq<|W.region rfl<|qm rfl rfl rfl ?_
 refine cix (f:=lS) (u':=typeHandle prog TK) (r:=.int .u8 22) (by kernel_rfl) (by kernel_rfl) ?_
 refine agW (Yv.eq (nG rfl rfl rfl) (show Value.bool (decide ((22:Int)≠22))= .bool false from rfl)) rfl ?_
 refine qm rfl rfl rfl ?_
 first | refine oq (Bf rfl rfl) rfl (ak rfl rfl rfl) rfl rfl ?_ | refine oq (zi rfl rfl) rfl (ak rfl rfl rfl) rfl rfl ?_ | refine oq (ady rfl rfl) rfl (ak rfl rfl rfl) rfl rfl ?_
 refine cx (fun h' hE=>Ya (β:=β1) (b:=β) (.inr (by repeat(first | exact List.Mem.head _ | apply List.Mem.tail))) rfl) (fun v F' hv=>?_)
 obtain⟨rfl,rfl⟩:=hv
 refine agW (iH rfl rfl rfl) rfl ?_
 refine pq ?_
 refine W.bZ ?_
 refine W.skip<|aA<|W.seq<|W.region rfl<|qm rfl rfl rfl ?_
 refine cix (f:=iO) (u':=.agg #[typeHandle prog TK]) (r:=Ur LY) (by kernel_rfl) (by kernel_rfl) ?_
 refine agb rfl rfl rfl<|pq<|W.seq<|W.seq<|W.region rfl<|qm rfl rfl rfl ?_
 refine cix (f:=lS) (u':=typeHandle prog LY) (r:=.int .u8 25) (by kernel_rfl) (by kernel_rfl) ?_
 refine agW (Yv.eq (nG rfl rfl rfl) (show Value.bool (decide ((25:Int)≠20))= .bool true from rfl)) rfl ?_
 refine qm rfl rfl rfl ?_
 refine oq (aN rfl rfl) rfl (ak rfl rfl rfl) rfl rfl ?_
 refine oq (iQ rfl rfl (.inl hg) rfl) rfl (ak rfl rfl rfl) rfl rfl ?_
 refine cix (f:=fD) (u':=.agg #[typeHandle prog LY]) (r:=.bool true) (by kernel_rfl) (by kernel_rfl) ?_
 refine oq (xU rfl rfl) rfl (ak rfl rfl rfl) rfl rfl ?_
 refine agW (dG rfl rfl rfl) rfl ?_
 refine pq ?_
 refine W.bZ ?_
 refine W.skip<|aA<|W.seq<|W.region rfl<|qm rfl rfl rfl<|qm rfl rfl rfl ?_
 first | refine ag2 rfl ?_ | refine agW (ady rfl rfl) rfl ?_
 refine qm rfl rfl rfl ?_
 refine cg (A:=[(β,.cells c LY (0,0))]) (.tail (.tail .head)) (fun h' hE hL=>adC _ h' fd fl β β1 c _ _ _ hc (hL β1 _ (by repeat(first | exact List.Mem.head _ | apply List.Mem.tail))) rfl) (fun v A' hv=>?_)
 obtain⟨rfl,hsb⟩:=hv
 refine agb rfl rfl rfl<|pq<|W.ret ?_
 refine mg ⟨rfl,?_⟩
 exact .skip rfl (.skip rfl (hsb.trans (.right .refl .nil)))
theorem Yc(main:Side)(h:Hp)(tv:Value):Pu prog main zQ #[.nilIface,tv] h (.bool false):=by
 refine dV.aG Ep rfl (by show 2≤42;decide) [(0,.nilIface),(1,tv)] ⟨rfl,rfl,trivial⟩ ?_
 refine W.seq<|W.region rfl<|agb rfl rfl rfl<|pq<|W.seq<|W.seq<|W.region rfl<|qm rfl rfl rfl ?_
 refine agW (abK rfl rfl) rfl ?_
 refine pq ?_
 refine W.dW ?_
 refine W.seq<|W.region rfl<|agb rfl rfl rfl<|pq<|W.ret<|aY ?_
 exact uZ rfl
end Go.aS

/- The first fault of a plan. Conditions: none. -/
namespace Go.aS
abbrev Err:=Option ((Bool×Int)×Int)
def aHK(acc:Err)(n:Int):Bool:=match acc with
 | none=>true
 | some (q0,_)=>decide (n<q0.2)
def aFq(acc:Err)(f:Int)(q:ayl):Err:=match q with
 | none=>acc
 | some z=>if aHK acc z.2=true then some (z,f)else acc
def azq(fs:List Fl)(ss:List St)(p:List Be):Nat→Err
 | 0=>none
 | k+1=>aFq (azq fs ss p k) k (aA_ fs ss p k)
def az1(fs:List Fl)(ss:List St)(p:List Be):Err:=azq fs ss p fs.length
end Go.aS

/- Two answering operations in an open order. Conditions: none; over any program. -/
namespace Go.aS
section
variable{x:Cx}{Q:Post}{ρ:Env}{ds:List Deferred}{F:eG}{ops:Array Oper}{d:Tmp}{ty:TypeId}{pos:String}{bK:Array Edge}{g:Option (Nat×Bool)}
variable{args:List Operand}{ts:Array TypeId}{vs:List Value}{y:Operand}{name:String}{t:TypeId}{u r:Value}{f:FuncId}
def An(x:Cx)(ρ:Env)(o:Oper)(F:eG)(u:Value):Prop:=∀R:Value→eG→Prop,(∀A,Shut A→R u (A++F))→Ef x ρ o F R
theorem An.oy{o:Oper}{u:Value}(hy:Yv x (· =F) ρ o u):An x ρ o F u:=fun R H=>Ef.ZJ hy (by simpa using H [] .nil)
theorem An.oi{o:Oper}(ho:o.op= .call ⟨.invoke y name,args.toArray,ts⟩)(hy:ev ρ y=some (.iface t u))[mv:MV x.P t name f][FB x.P f](hv:evs ρ args=some vs)(H:∀h',Ext x.h h'→fF F h'→Pu x.P x.main f (u::vs).toArray h' r):An x ρ o F r:=fun R K=>aDD ho hy hv H K
theorem a2g{fuel listed i j d d':Nat}{op op':Op}{ty':TypeId}{pos':String}{RJ:Array Edge}{g':Option (Nat×Bool)}{v w:Value}(ho:cO ops.toList i=some ⟨some d,op,ty,pos,bK,g⟩)(ho':cO ops.toList j=some ⟨some d',op',ty',pos',RJ,g'⟩)
  (hy:An x ρ ⟨some d,op,ty,pos,bK,g⟩ F v) (hy2:An x ((d',w)::ρ) ⟨some d,op,ty,pos,bK,g⟩ F v) (hy':An x ρ ⟨some d',op',ty',pos',RJ,g'⟩ F w) (aeP:An x ((d,v)::ρ) ⟨some d',op',ty',pos',RJ,g'⟩ F w)
  (hw:dR ops (look ρ) ⟨some d,op,ty,pos,bK,g⟩ true) (hw2:dR ops (look ((d',w)::ρ)) ⟨some d,op,ty,pos,bK,g⟩ true) (hw':dR ops (look ρ) ⟨some d',op',ty',pos',RJ,g'⟩ true) (aeQ:dR ops (look ((d,v)::ρ)) ⟨some d',op',ty',pos',RJ,g'⟩ true)
  (hd:Nat.blt d x.n=true) (hd':Nat.blt d' x.n=true) (hn:QS op=true) (hn':QS op'=true)
  (H:Any x ops [] fuel ((listed||| 2 ^ i)||| 2 ^ j) Q ((d',w)::(d,v)::ρ) ds F) (hne:Nat.beq d d'=false:=by rfl)
  (hr:qx ops listed=[i,j]:=by kernel_rfl) (hr1:qx ops (listed||| 2 ^ i)=[j]:=by kernel_rfl) (hr2:qx ops (listed||| 2 ^ j)=[i]:=by kernel_rfl):Any x ops [] (fuel+2) listed Q ρ ds F:=by
 have hk:∀F:eG,Keeps [] F:=fun _ p hp=>by cases hp
 refine Any.WB (o:=⟨some d,op,ty,pos,bK,g⟩) (o':=⟨some d',op',ty',pos',RJ,g'⟩) hr (aU ho) (aU ho') hw hw' hd hd' hn hn' (hy _ fun A hA=>⟨.inr (hk _),Any.sb (Sb.left .refl hA) ?_⟩) (hy' _ fun A hA=>⟨.inr (hk _),Any.sb (Sb.left .refl hA) ?_⟩)
 ·exact Any.eff (o:=⟨some d',op',ty',pos',RJ,g'⟩) (aeP _ fun A hA=>⟨.inr (hk _),Any.sb (Sb.left .refl hA) H⟩) hr1 (aU ho') aeQ hd' hn'
 ·refine Any.eff (o:=⟨some d,op,ty,pos,bK,g⟩) (hy2 _ fun A hA=>⟨.inr (hk _),Any.sb (Sb.left .refl hA) ?_⟩) hr2 (aU ho) hw2 hd hn
  have e1:(listed||| 2 ^ j)||| 2 ^ i=(listed||| 2 ^ i)||| 2 ^ j:=by rw[Nat.or_assoc,Nat.or_comm (2 ^ j),←Nat.or_assoc]
  have e2:look ((d,v)::(d',w)::ρ)=look ((d',w)::(d,v)::ρ):=by
   funext t
   show(bif Nat.beq t d then some v else bif Nat.beq t d' then some w else look ρ t)=(bif Nat.beq t d' then some w else bif Nat.beq t d then some v else look ρ t)
   cases h1:Nat.beq t d with
   | false=>rfl
   | true=>
    have:t=d:=Nat.eq_of_beq_eq_true h1
    subst this
    rw[hne];rfl
  rw[e1]
  unfold Any at H⊢
  show DI _ _ _ _ _ _ (look ((d,v)::(d',w)::ρ)) _
  rw[e2]
  exact H
end
end Go.aS

/- The first fault of a plan. Conditions: none; over the given program. -/
namespace Go.aS
set_option maxRecDepth 100000
set_option maxHeartbeats 4000000
instance:NI prog TK:=⟨by kernel_rfl⟩
instance:NI prog LY:=⟨by kernel_rfl⟩
def aJ1:Err→Value
 | none=>.nilIface
 | some (q,f)=>.iface LY (.agg #[awK (some q),I f])
theorem An.fault{main:Side}{fn:FuncId}{m:Nat}{ro:Option Nat}{h:Hp}{ρ:Env}{F:eG}{o:Oper}{y:Operand}{c:Bool}{n:Int}{ts:Array TypeId}(ho:o.op= .call ⟨.invoke y "muscovado/floor.day", #[],ts⟩)(hy:ev ρ y=some (awK (some (c,n)))):An ⟨prog,main,fn,m,ro,h⟩ ρ o F (I n):=by
 cases c with
 | true=>exact An.oi (args:=[]) (vs:=[]) ho hy rfl (fun h' _ _=>aCS _ h' n)
 | false=>exact An.oi (args:=[]) (vs:=[]) ho hy rfl (fun h' _ _=>aCR _ h' n)
theorem aJ2{x:Cx}{ρ:Env}{S:eG→Prop}{o:Oper}{t t':TypeId}{ms:Array (String×TypeId)}{y:Operand}{e:Err}(ho:o.op= .binOp .neq t y (.const .nilIface) t')[TD x.P t (.interface ms)](hy:ev ρ y=some (aJ1 e)):Yv x S ρ o (.bool e.isSome):=by
 rcases e with _ | ⟨q,f⟩
 ·exact aJZ ho hy
 ·exact aJY ho hy

theorem aHo(main:Side)(h:Hp)(fs:List Fl)(ss:List St)(p:List Be)(vf vs:Value)(Eg:TypeId)(zg:Nat×Nat)(hf:Sl h Fl.row vf fs)(hs:Sl h St.row vs ss)(hall:Ju fs ss)(hp:axb fs ss p)(hg:h 0=some (.cells #[Ur qM] Eg zg)):Pu prog main azn #[.agg #[vf,vs],adu p] h (aJ1 (az1 fs ss p)):=by
 obtain⟨a,cap,rfl⟩:=hf.dA
 obtain⟨a',cap',rfl⟩:=hs.dA
 have hsz:=ay0 hp.ok
 have hn2:=hall.nf
 refine dV.aG aBl rfl (by show 2≤40;decide) [(0,.agg #[.slice a fs.length cap,.slice a' ss.length cap']),(1,adu p)] ⟨rfl,rfl,trivial⟩ ?_
 refine W.seq<|W.region rfl ?_
 refine Ops.box (fun yR=>?_)
 refine Ops.box (fun uU=>?_)
 refine agb rfl rfl rfl<|pq<|W.seq<|W.region rfl<|agb rfl rfl rfl<|pq<|W.seq<|W.seq ?_
 refine W.region rfl ?_
 refine agY rfl ?_
 refine agY rfl ?_
 refine agX rfl ?_
 refine agW (dM rfl rfl) rfl ?_
 refine qm rfl rfl rfl<|pq<|W.block ?_
 refine W.loop (σ:=Nat) (fun k=>k≤fs.length) (fun k=>[(13,I k),(12,I fs.length),(5,aJ1 (azq fs ss p k)),(3,.pointer (some ⟨uU,0,none⟩)),(2,.pointer (some ⟨yR,0,none⟩))]) (fun _=>[(uU,.cells (flat Be.row p).toArray zl (0,0)),(yR,.cells #[.slice a fs.length cap,.slice a' ss.length cap'] azt (0,0))]) (fun k=>fs.length-k) 0 (Nat.zero_le _) ⟨rfl,rfl,rfl,rfl,rfl,trivial⟩ TW ?_
 intro k hk
 refine W.seq<|W.region rfl ?_
 refine agW (fO rfl rfl rfl) rfl ?_
 refine pq<|W.seq ?_
 refine W.bC rfl (fun c14=>?_) (fun c14=>?_)
 ·refine W.skip<|aA<|W.seq<|W.block<|W.seq<|W.region rfl<|qm rfl rfl rfl<|agb rfl rfl rfl<|pq ?_
  refine W.seq<|W.region rfl ?_
  first | refine ag2 rfl ?_ | refine agW (ady rfl rfl) rfl ?_
  first | refine ag2 rfl ?_ | refine agW (ady rfl rfl) rfl ?_
  refine qm rfl rfl rfl ?_
  refine cp (fun h' hE hL=>aJ0 _ h' fs ss p k _ _ (hf.ext hE) (hs.ext hE) hall hp (by omega) (by omega)) ?_
  obtain⟨q,hq⟩:∃q,aA_ fs ss p k=q:=⟨_,rfl⟩
  rw[hq]
  refine agb rfl rfl rfl<|pq<|W.seq<|W.seq<|W.region rfl<|qm rfl rfl rfl ?_
  refine agW (aHn rfl rfl) rfl ?_
  refine pq ?_
  refine W.cond rfl (fun c21=>?_) (fun c21=>?_)
  ·refine W.exit<|bP<|gG<|aA<|W.region rfl ?_
   refine ag1 rfl ?_
   refine qm rfl rfl rfl<|pq ?_
   have e:azq fs ss p (k+1)=azq fs ss p k:=by
    cases q with
    | none=>simp only[azq,hq,aFq]
    | some z=>cases c21
   refine⟨rfl,k+1,by omega,by omega,⟨rfl,rfl,?_,rfl,rfl,trivial⟩,TW⟩
   rw[e];rfl
  ·obtain⟨⟨cc,n⟩,rfl⟩:∃z,q=some z:=by
    cases q with
    | none=>simp at c21
    | some z=>exact⟨z,rfl⟩
   refine W.skip<|aA<|W.seq<|W.region rfl ?_
   refine Ops.new (fun yD=>?_)
   refine pq<|W.seq ?_
   obtain⟨acc,hacc⟩:∃acc,azq fs ss p k=acc:=⟨_,rfl⟩
   rw[hacc]
   refine W.mono (Q:=fun e ρ' ds' F'=>e= .normal∧ds'=[]∧Sub [(33,.bool (aHK acc n)),(7,awK (some (cc,n))),(6,I k),(13,I k),(12,I fs.length),(5,aJ1 acc),(3,.pointer (some ⟨uU,0,none⟩)),(2,.pointer (some ⟨yR,0,none⟩))] ρ'∧Sb [(uU,.cells (flat Be.row p).toArray zl (0,0)),(yR,.cells #[.slice a fs.length cap,.slice a' ss.length cap'] azt (0,0))] F') ?_ ?_
   ·refine W.DR [] (n:=12) rfl ?_
    rcases acc with _ | ⟨⟨c0,n0⟩,f0⟩
    ·refine dn 0 (aN rfl rfl) rfl ?_
     refine dn 1 (ZK rfl rfl) rfl ?_
     refine Va (i:=2) (fun h' hE hL=>Yc _ h' _) ?_
     refine dn 3 (xU rfl rfl) rfl ?_
     refine dn 4 (aN rfl rfl) rfl ?_
     refine ap (i:=5) rfl rfl rfl rfl rfl rfl ?_
     refine ap (i:=6) rfl rfl rfl rfl rfl rfl ?_
     refine ap (i:=7) rfl rfl rfl rfl rfl rfl ?_
     refine ap (i:=8) rfl rfl rfl rfl rfl rfl ?_
     refine ap (i:=9) rfl rfl rfl rfl rfl rfl ?_
     refine ap (i:=10) rfl rfl rfl rfl rfl rfl ?_
     refine dn 11 (dG rfl rfl rfl) rfl ?_
     refine az ?_
     exact⟨rfl,rfl,⟨rfl,rfl,rfl,rfl,rfl,rfl,rfl,rfl,trivial⟩,TW⟩
    ·refine dn 0 (aN rfl rfl) rfl ?_
     refine dn 1 (ZK rfl rfl) rfl ?_
     refine ae (i:=2) rfl an rfl rfl (QZ (f:=zQ) (args:=[_,_]) (A:=[(yD,_)]) rfl rfl .head (fun h' hE hL=>adD _ h' (some (c0,n0)) f0 yD _ Eg zg rfl (hE.1 _ _ hg)) (fun v A' hv=>?_))
     obtain⟨rfl,hsb⟩:=hv
     refine⟨.inr (fun _ h=>absurd h List.not_mem_nil),Any.sb (hsb.app .refl) ?_⟩
     refine dn 3 (xU rfl rfl) rfl ?_
     refine dn 4 (aN rfl rfl) rfl ?_
     refine aq (i:=5) (aN rfl rfl) rfl (b_ rfl rfl rfl rfl) rfl rfl ?_
     refine aq (i:=7) (ay rfl rfl) rfl (b_ rfl rfl rfl rfl) rfl rfl ?_
     refine a2g (i:=6) (j:=8) rfl rfl (An.fault rfl rfl) (An.fault rfl rfl) (An.oy (iQ rfl rfl)) (An.oy (iQ rfl rfl)) (b_ rfl rfl rfl rfl) (b_ rfl rfl rfl rfl) (b_ rfl rfl rfl rfl) (b_ rfl rfl rfl rfl) rfl rfl rfl rfl ?_
     refine aLX (i:=9) ?_ (.inr (fun _ h=>absurd h List.not_mem_nil))
     refine aq (i:=10) (fO rfl rfl rfl) rfl (b_ rfl rfl rfl rfl) rfl rfl ?_
     refine dn 11 (iH rfl rfl rfl) rfl ?_
     refine az ?_
     exact⟨rfl,rfl,⟨rfl,rfl,rfl,rfl,rfl,rfl,rfl,rfl,trivial⟩,TW⟩
   rintro e ρ' ds' F' ⟨rfl,rfl,hE,hD⟩
   refine aA (W.env hE (W.sb hD ?_))
   refine W.cond rfl (fun c33=>?_) (fun c33=>?_)
   ·refine W.region rfl<|qm rfl rfl rfl<|qm rfl rfl rfl ?_
    refine agW (eH (cs:= #[awK (some (cc,n)),I k]) rfl rfl (by cases cc <;>rfl)) rfl ?_
    first | refine agW (ZK rfl rfl) rfl ?_ | refine agW (yfc rfl rfl) rfl ?_
    refine agb rfl rfl rfl<|Ops.nil<|dI<|aA<|W.region rfl ?_
    refine ag1 rfl ?_
    refine qm rfl rfl rfl<|pq ?_
    have e:azq fs ss p (k+1)=some ((cc,n),(k:Int)):=by simp only[azq,hacc,hq,aFq];rw[if_pos c33]
    refine⟨rfl,k+1,by omega,by omega,⟨rfl,rfl,?_,rfl,rfl,trivial⟩,TW⟩
    rw[e];rfl
   ·refine W.skip<|dI<|aA<|W.region rfl ?_
    refine ag1 rfl ?_
    refine qm rfl rfl rfl<|pq ?_
    have e:azq fs ss p (k+1)=acc:=by simp only[azq,hacc,hq,aFq];rw[if_neg (by rw[c33];exact Bool.false_ne_true)]
    refine⟨rfl,k+1,by omega,by omega,⟨rfl,rfl,?_,rfl,rfl,trivial⟩,TW⟩
    rw[e];rfl
 ·refine W.exit<|bP<|bP<|gG<|aA<|W.seq<|W.region rfl<|qm rfl rfl rfl<|agb rfl rfl rfl<|Ops.nil ?_
  refine aA<|W.ret ?_
  refine uZ ?_
  rw[az1,show fs.length=k by omega];rfl
end Go.aS

/- A loop over a function that may be left: what is owned then is told apart. Conditions: none; over any program. -/
namespace Go.aS
theorem W.aFY{x:Cx}{Q:Post}{ρ:Env}{ds:List Deferred}{F:eG}{f:Operand}{t:Tmp}{us bd:Code}{fv:Value}{X σ:Type}{enc:X→Value}{xs:List X}(hf:ev ρ f=some fv)(hro:x.ro=none)(ht:Nat.blt t x.n=true)
  (st:σ→X→σ) (ex:σ→X→Option Exit) (nx:X→σ→Prop) (D X':σ→eG→Prop) (s₀:σ) {A₀:eG} {g_:eG→eG} (hs:Seg A₀ F g_) (h0:D s₀ A₀)
  (hi:∀h',Ext x.h h'→fF (g_ []) h'→Iter x.P x.main fv enc xs h')
  (hex:∀s p e,ex s p=some e→(tK e).isSome=true)
  (hnx:∀pre p post s',xs=pre++p::post→runs (BN st ex) (s₀,none) pre=((s',none),true)→nx p s')
  (
   body:∀s p A,nx p s→D s A→∀l h',Ext x.h h'→fF (g_ []) h'→W {x with ro:=some l,h:=h'} us (fun e xP xQ qp=>e= .normal∧xQ=[]∧∀h',Ext x.h h'→fF (g_ []) h'→
   W {x with ro:=some l,h:=h'} bd (fun e _ ds₂ kP=>ds₂=[]∧e=Q_ (ex s p)∧∃B,(match ex s p with | none=>D (st s p) B | some _=>X' (st s p) B)∧Sb B kP) xP [] qp) ((t,enc p)::ρ) [] A)
  (after:∀s e A,(runs (BN st ex) (s₀,none) xs).1=(s,e)→(match e with | none=>D s A | some _=>X' s A)→∀d,Q (Q_ e) ρ (mark d::ds) ((d,.deferred (some []))::g_ A)):W x (.rangeFunc f #[t] us bd) Q ρ ds F:=by
 refine W.rangeFunc hf hro fun tmps hρ hsz l d=>?_
 let L (s:LoopState) (pd:Option Code):Obj:=.loop {state:=s,pending:=pd,fn:=x.fn,tmps,params:= #[t],assign:=us,body:=bd,defers:=d}
 let J:σ×Option Exit→eG→Prop:=fun s A=>s.2=none∧∃B,D s.1 B∧A=B++[(l,L .ready none)]
 let K:σ×Option Exit→eG→Prop:=fun s A=>∃B c,X' s.1 B∧s.2.bind tK=some c∧A=B++[(l,L .done (some c))]
 
 refine⟨A₀++[(l,L .ready none)],(d,.deferred (some []))::g_ [],fun _ A'=>Out J K (runs (BN st ex) (s₀,none) xs) A',?_,?_,?_⟩
 ·refine(List.perm_append_comm.append_right _).trans ?_
  refine List.Perm.cons _ ?_
  exact List.perm_middle.trans (hs.perm.1.cons _)
 ·intro h' e1 e2
  have e3:fF (g_ []) h':=fun b o hb=>e2 b o (List.mem_cons_of_mem _ hb)
  refine hi h' e1 e3 h' ⟨fun _ _ z=>z,fun _ z=>z⟩ _ rfl (σ×Option Exit) (fun p s=>s.2=none→nx p s.1) (BN st ex) J K ?_ (s₀,none) _ (fun pre p post s' e hr hn=>hnx pre p post s'.1 e (by rw[hr,←hn])) ⟨rfl,A₀,h0,rfl⟩
  
  rintro h'' e4 ⟨s,e⟩ p A hp ⟨rfl,B,hB,rfl⟩
  have hE:Ext x.h h'':=e1.trans e4
  have hL:fF (g_ []) h'':=fun b o hb=>e4.1 _ _ (e3 b o hb)
  refine⟨_,_,_,rfl,?_⟩
  simp only[invoke,Instr.yield,Instr.getLoop,bind_eq,gq,bind_assoc]
  refine⟨L .ready none,.inr (List.mem_append_right _ (List.mem_cons_self ..)),(fun _ _ _=>by simp[L]),rfl,?_⟩
  have ez:Array.foldl (fun(tmps:Array Value) (x:Tmp×Value)=>tmps.setIfInBounds x.1 x.2) tmps (#[t].zip #[enc p])=tmps.setIfInBounds t (enc p):=by simp
  show ni x.P x.main h'' _ (.round l x.fn (Array.foldl (fun(tmps:Array Value) (x:Tmp×Value)=>tmps.setIfInBounds x.1 x.2) tmps (#[t].zip #[enc p])) us bd) _
  rw[ez]
  have hlt:t<tmps.size:=by rw[hsz];exact Nat.le_of_ble_eq_true ht
  have WG:dQ ((t,enc p)::ρ) (tmps.setIfInBounds t (enc p)):=hρ.put hlt _
  have hsz':(tmps.setIfInBounds t (enc p)).size=x.n:=by simpa using hsz
  show Rnd x.P x.main l x.fn (tmps.setIfInBounds t (enc p)) us bd h'' _ _
  refine Rnd.aG _ WG ?_
  rw[hsz']
  
  refine(W.frame (x:={x with ro:=some l,h:=h''}) fun h₃ e5 _=>body s p B (hp rfl) hB l h₃ (hE.trans e5) (fun b o hb=>e5.1 _ _ (hL b o hb))).mono ?_
  rintro e xP xQ qp ⟨A',⟨rfl,rfl,hbd⟩,rfl⟩
  refine⟨rfl,rfl,?_⟩
  simp only[Instr.beginRound,Instr.getLoop,bind_eq,gq,bind_assoc]
  refine⟨L .ready none,.inr (List.mem_append_right _ (List.mem_cons_self ..)),(fun _ _ _=>by simp[L]),rfl,?_⟩
  refine⟨L .ready none,A',[],rfl,(fun _ _ _=>by simp[L]),rfl,?_⟩
  show W _ _ _ _ _ (A'++[(l,L .busy none)])
  
  refine(W.frame (x:={x with ro:=some l,h:=h''}) fun h₃ e5 _=>hbd h₃ (hE.trans e5) (fun b o hb=>e5.1 _ _ (hL b o hb))).mono ?_
  rintro e tC ds₂ kP ⟨A₂,⟨rfl,rfl,Bg,BO,hsb⟩,rfl⟩
  refine⟨rfl,(ex s p).bind tK,uy fun e he=>hex s p e he,?_⟩
  simp only[Instr.endRound,Instr.getLoop,bind_eq,gq,bind_assoc]
  refine⟨L .busy none,.inr (List.mem_append_right _ (List.mem_cons_self ..)),(fun _ _ _=>by simp[L]),rfl,?_⟩
  refine⟨L .busy none,A₂,[],rfl,(fun _ _ _=>by simp[L]),rfl,?_⟩
  cases he:ex s p with
  | none=>
   simp only[he]at BO
   refine⟨by simp[BN,he],Bg++[(l,L .ready none)],hsb.app .refl,?_⟩
   simp only[BN,he]
   exact⟨rfl,Bg,BO,rfl⟩
  | some e=>
   simp only[he]at BO
   obtain⟨c,hc⟩:=Option.isSome_iff_exists.1 (hex s p e he)
   have hj:(some e:Option Exit).bind tK=some c:=hc
   refine⟨by simp[BN,he,hc],Bg++[(l,L .done (some c))],?_,?_⟩
   ·rw[hj];exact hsb.app .refl
   ·simp only[BN,he]
    exact⟨Bg,c,BO,hj,rfl⟩
 ·rintro _ A' ⟨B,hsub,hB⟩
  refine⟨B,hsub,?_⟩
  generalize hr:runs (BN st ex) (s₀,none) xs=r at hB
  obtain⟨⟨s,e⟩,b⟩:=r
  have hrs:=IX hr
  have haft:=fun A hA=>after s e A (by rw[hr]) hA d
  simp only[Instr.endLoop,Instr.getLoop,bind_eq,gq,bind_assoc]
  cases b with
  | true=>
   obtain⟨he,A,hA,rfl⟩:=hB
   simp only at he
   subst he
   refine⟨L .ready none,.inr (List.mem_append_left _ (List.mem_append_right _ (List.mem_cons_self ..))),(fun _ _ _=>by simp[L]),rfl,?_⟩
   refine⟨L .ready none,A,(d,.deferred (some []))::g_ [],by simp,(fun _ _ _=>by simp[L]),rfl,?_⟩
   refine⟨(d,.deferred (some []))::g_ A,?_,haft A hA⟩
   refine Sb.trans (Sb.dF ((hs.perm.2 A).cons _)) ?_
   refine(Sb.dF List.perm_middle.symm).trans (Sb.app .refl (Sb.skip rfl .refl))
  | false=>
   obtain⟨A,c,hA,hc,rfl⟩:=hB
   simp only at hc
   obtain⟨e,rfl,he⟩:=Option.bind_eq_some_iff.1 hc
   refine⟨L .done (some c),.inr (List.mem_append_left _ (List.mem_append_right _ (List.mem_cons_self ..))),(fun _ _ _=>by simp[L]),rfl,?_⟩
   refine⟨L .done (some c),A,(d,.deferred (some []))::g_ [],by simp,(fun _ _ _=>by simp[L]),rfl,?_⟩
   show W x c Q ρ (mark d::ds) _
   refine W.sb (F':=(d,.deferred (some []))::g_ A) ?_ ?_
   ·refine Sb.trans (Sb.dF ((hs.perm.2 A).cons _)) ?_
    refine(Sb.dF List.perm_middle.symm).trans (Sb.app .refl (Sb.skip rfl .refl))
   ·have q:=haft A hA
    cases e <;>simp only[tK,Option.some.injEq]at he <;>first | (cases he;done) | subst he
    ·exact W.exit q
    ·exact W.goto q
    ·exact W.ret q

theorem Tc.fn{P:Program}{main:Side}{h:Hp}{ds:List Deferred}{F A:eG}{U:eG→eG}{K R:eG→Prop}{f:FuncId}[FB P f]{cap:Array Value}(hs:Seg A F U)(H:∀h',Ext h h'→fF (U []) h'→Y8 P main f cap h' A R)(k:∀A',R A'→Tc P main h ds (A'++U []) K):Tc P main h ({target:=.fn (.func f) cap,args:= #[]}::ds) F K:=by
 obtain⟨fn,h1,h2,h3⟩:=FB.out (inferInstance:FB P f)
 show tr P h (callFunc f (#[]++cap)) F _
 simp only[callFunc,bind_eq,gq,l7,h1,h2,h3,Bool.false_eq_true,if_false,Array.empty_append]
 exact⟨f,cap,rfl,A,U [],hs.perm.1,fun h' e1 e2=>(H h' e1 e2).mono fun A' r=>k A' r⟩
theorem X6{P:Program}{main:Side}{fn:Func}{h:Hp}{R':Value→eG→Prop}{e:Exit}{ρ:Env}{ds:List Deferred}{F A:eG}{U:eG→eG}{R:eG→Prop}{f:FuncId}[FB P f]{cap:Array Value}(hs:Seg A F U)(H:∀h',Ext h h'→fF (U []) h'→Y8 P main f cap h' A R)(k:∀A',R A'→leave P main fn h R' e ρ ds (A'++U []))(he:e= .ret∨e= .normal:=by first | exact .inl rfl | exact .inr rfl):leave P main fn h R' e ρ ({target:=.fn (.func f) cap,args:= #[]}::ds) F:=
 ⟨he,Tc.fn hs H fun A' r=>(k A' r).2⟩
end Go.aS

/- The right plans of a hall, looked for. Conditions: none. -/
namespace Go.aS
abbrev May:=Nat→Bool×Bool
def atI(f d:Int):Nat→List Be
 | 0=>[]
 | m+1=>⟨f,d⟩::atI f (d+1) m
def DF(s:St)(f:Int):Nat→List Be
 | 0=>[]
 | m+1=>atI f s.day (s.wa+1).toNat++DF s (f+1) m
def ax6(ss:List St)(k:Nat):St:=ss.getD k ⟨0,0,0⟩
def jc(fs:List Fl)(ss:List St)(may:May)(k:Nat):List Be:=
 (if(may k).2 then[TL]else[])++(if(may k).1 then DF (ax6 ss k) 0 fs.length else[])
def over(pl:Int):List Sp→Bool
 | []=>false
 | s::r=>if pl<s.hi then true else over pl r
def prune(fs:List Fl)(ss:List St)(p:List Be)(b:Be):Bool:=if 0≤b.fl then over (Wy fs b.fl).pl (aw4 fs ss p b.fl)else false
def rights(fs:List Fl)(ss:List St)(may:May):Nat→Nat→List Be→List (List Be)
 | 0,_,p=>if(az1 fs ss p).isNone then[p]else[]
 | m+1,k,p=>(jc fs ss may k).flatMap fun b=>if prune fs ss (p.set k b) b then[]else rights fs ss may m (k+1) (p.set k b)
theorem aB6{pl:Int}:∀{d:List Sp} {k:Nat},(∀i,i<k→∀s,d[i]? =some s→¬pl<s.hi)→over pl d=over pl (d.drop k)
 | d,0,_=>rfl
 | [],k+1,_=>by simp
 | s::d,k+1,hn=>by
  have h0:=hn 0 (by omega) s rfl
  simp only[over,if_neg h0,List.drop_succ_cons]
  exact aB6 fun i hi s hs=>hn (i+1) (by omega) s (by simpa using hs)

theorem azY{f:Int}:∀{m:Nat} {d:Int} {b:Be},b∈atI f d m→b.fl=f∧d≤b.day∧b.day<d+m
 | 0,_,_,h=>by simp[atI]at h
 | m+1,d,b,h=>by
  simp only[atI,List.mem_cons]at h
  rcases h with rfl | h
  ·exact⟨rfl,Int.le_refl _,by simp;omega⟩
  ·have:=azY h
   exact⟨this.1,by omega,by omega⟩
theorem ay1{s:St}:∀{m:Nat} {f:Int} {b:Be},b∈DF s f m→f≤b.fl∧b.fl<f+m∧s.day≤b.day∧b.day<s.day+(s.wa+1).toNat
 | 0,_,_,h=>by simp[DF]at h
 | m+1,f,b,h=>by
  rcases List.mem_append.1 h with h | h
  ·have:=azY h;omega
  ·have:=ay1 h;omega
theorem awZ{fs:List Fl}{ss:List St}{may:May}{k:Nat}{b:Be}(hall:Ju fs ss)(hk:k<ss.length)(h:b∈jc fs ss may k): -1≤b.fl∧b.fl≤1∧b.fl<fs.length∧0≤b.day∧b.day≤17:=by
 have hs:ax6 ss k∈ss:=by simp[ax6,List.getD,List.getElem?_eq_getElem hk]
 have:=hall.st _ hs
 have hn:=hall.nf
 unfold jc at h
 rcases List.mem_append.1 h with h | h
 ·split at h
  ·have:b=TL:=by simpa using h
   subst this;simp[TL];omega
  ·cases h
 ·split at h
  ·have:=ay1 h;omega
  ·cases h
theorem ax4{fs:List Fl}{ss:List St}{p:List Be}{k:Nat}{b:Be}(hp:axb fs ss p)(hk:k<ss.length)(hb: -1≤b.fl∧b.fl≤1∧b.fl<fs.length∧0≤b.day∧b.day≤17):axb fs ss (p.set k b):=by
 refine⟨⟨by simpa using hp.ok.len,fun c hc=>?_⟩,fun c hc=>?_,fun i hi=>?_⟩
 ·rcases List.mem_or_eq_of_mem_set hc with h | rfl
  ·exact hp.ok.ok c h
  ·omega
 ·rcases List.mem_or_eq_of_mem_set hc with h | rfl
  ·exact hp.fl c h
  ·omega
 ·have:=hp.pad i hi
  simp only[qw,List.getD]at this⊢
  rw[List.getElem?_set_ne (by omega)]
  exact this
end Go.aS

/- A strike is set while something is done. Conditions: none; over the given program. -/
namespace Go.aS
set_option maxRecDepth 100000
set_option maxHeartbeats 4000000
theorem aCz{p:List Be}{k:Nat}{b:Be}(hk:k<p.length):jv (flat Be.row p).toArray (0+k*2) [I b.fl,I b.day]=(flat Be.row (p.set k b)).toArray:=by
 induction p generalizing k with
 | nil=>simp at hk
 | cons a p ih=>
  cases k with
  | zero=>simp[iV,Be.row,jv]
  | succ k=>
   have:=ih (k:=k) (by simpa using hk)
   simp only[List.set_cons_succ,iV]
   apply Array.ext'
   have h2:=congrArg Array.toList this
   simp only[jv,Array.toList_setIfInBounds,Nat.zero_add]at h2⊢
   have e1:(k+1)*2=k*2+2:=by omega
   rw[e1,←h2]
   simp[Be.row]

theorem aBX(main:Side)(h:Hp)(p:List Be)(k:Nat)(b:Be)(bp b11 b6 b7:Nat)(E1 E6 E7:TypeId)(z1 z6 z7:Nat×Nat)(hk:k<4)(hp:p.length=4)
  (h1:h b11=some (.cells #[I b.fl,I b.day] E1 z1)) (h6:h b6=some (.cells #[.pointer (some ⟨bp,0,none⟩)] E6 z6)) (h7:h b7=some (.cells #[I k] E7 z7)):
  Y8 prog main awP #[.pointer (some ⟨b11,0,none⟩),.pointer (some ⟨b6,0,none⟩),.pointer (some ⟨b7,0,none⟩)] h [(bp,.cells (flat Be.row p).toArray zl (0,0))] (fun A=>A=[(bp,.cells (flat Be.row (p.set k b)).toArray zl (0,0))]):=by
 have hsz:(flat Be.row p).toArray.size=8:=by simp[jT,hp]
 have hex: #[I b.fl,I b.day].extract 0 (0+2)= #[I b.fl,I b.day]:=rfl
 refine Y8.aG aA2 rfl (by show 3≤8;decide) [(0,.pointer (some ⟨b11,0,none⟩)),(1,.pointer (some ⟨b6,0,none⟩)),(2,.pointer (some ⟨b7,0,none⟩))] ⟨rfl,rfl,rfl,trivial⟩ ?_
 refine W.DR [] (n:=6) rfl ?_
 refine dn 0 (iQ rfl rfl) rfl ?_
 refine dn 1 (iQ rfl rfl) rfl ?_
 first | refine dn 2 (Bf rfl rfl) rfl ?_ | refine dn 2 (zi rfl rfl) rfl ?_ | refine dn 2 (ady rfl rfl) rfl ?_
 first | refine dn 3 (bg rfl rfl) rfl ?_ | refine dn 3 (aT rfl rfl) rfl ?_
 first | refine dn 4 (UN rfl rfl rfl) rfl ?_ | refine dn 4 (Qg rfl rfl rfl) rfl ?_
 first | refine ae (i:=5) rfl an rfl rfl (eSW rfl rfl rfl ?_) | refine ae (i:=5) rfl an rfl rfl (eSA rfl rfl rfl ?_)
 refine⟨.inl (by kernel_rfl),?_⟩
 refine az ?_
 rw[aCz (by omega)]
 exact mg rfl

abbrev aDM(vf vs mv:Value):Value:=.agg #[vf,vs,mv]

theorem aJ3(main:Side)(h:Hp)(fs:List Fl)(ss:List St)(p:List Be)(k:Nat)(b:Be)(vf vs mv dov:Value)(bp:Nat)(A:eG)(hm1:one mv=true)(hf:Sl h Fl.row vf fs)(hs:Sl h St.row vs ss)(hall:Ju fs ss)(hp:axb fs ss p)(hk:k<ss.length)
  (hb: -1≤b.fl∧b.fl≤1∧b.fl<fs.length∧0≤b.day∧b.day≤17) (P:Value→eG→Prop) (aK4:prune fs ss (p.set k b) b=true→P (.bool true) A)
  (hdo:prune fs ss (p.set k b) b=false→∀h',Ext h h'→gZ prog main dov [] h' (A++[(bp,.cells (flat Be.row (p.set k b)).toArray zl (0,0))]) (fun v A1=>∃r,v= .bool r∧∃B,P (.bool r) B∧Sb (B++[(bp,.cells (flat Be.row (p.set k b)).toArray zl (0,0))]) A1)):
  dV prog main azC #[aDM vf vs mv,.pointer (some ⟨bp,0,none⟩),I k,b.val,dov] h (A++[(bp,.cells (flat Be.row p).toArray zl (0,0))]) (fun v A'=>∃B,P v B∧Sb (B++[(bp,.cells (flat Be.row p).toArray zl (0,0))]) A'):=by
 obtain⟨a,cap,rfl⟩:=hf.dA
 obtain⟨a',cap',rfl⟩:=hs.dA
 have hlen:=hp.ok.len
 have hk4:k<4:=by have:=hall.ns;omega
 have hsz:=ay0 hp.ok
 have hp':=ax4 hp hk hb
 have hsz':=ay0 hp'.ok
 have hold:(flat Be.row p).toArray.extract (0+k*2) (0+k*2+2)= #[I (qw p k).fl,I (qw p k).day]:=by rw[Nat.zero_add];exact aHG hp.ok hk4
 have hback:(p.set k b).set k (qw p k)=p:=by
  rw[List.set_set]
  apply List.ext_getElem?
  intro j
  rw[List.getElem?_set]
  split
  ·rename_i e;subst e
   have:=(aw8 hp.ok hk4).1
   rw[this];simp[hlen,hk4]
  ·rfl
 refine dV.perm (A:=(bp,.cells (flat Be.row p).toArray zl (0,0))::A) (List.perm_append_comm (l₁:=[_])) ?_
 refine dV.aG aBQ rfl (by show 5≤54;decide) [(0,aDM (.slice a fs.length cap) (.slice a' ss.length cap') mv),(1,.pointer (some ⟨bp,0,none⟩)),(2,I k),(3,b.val),(4,dov)] ⟨rfl,rfl,rfl,rfl,rfl,trivial⟩ ?_
 refine W.seq<|W.region rfl ?_
 refine Ops.box (fun mZ=>?_)
 refine Ops.box (fun yC=>?_)
 refine Ops.box (fun Vo=>?_)
 refine Ops.box (fun yD=>?_)
 refine agb rfl rfl rfl<|pq<|W.seq ?_
 refine W.rE (n:=7) rfl ?_
 refine dn 0 (iQ rfl rfl) rfl ?_
 refine dn 1 (iQ rfl rfl) rfl ?_
 first | refine dn 2 (bg rfl rfl) rfl ?_ | refine dn 2 (aT rfl rfl) rfl ?_
 first | refine dn 3 (UN rfl rfl rfl) rfl ?_ | refine dn 3 (Qg rfl rfl rfl) rfl ?_
 first | refine dn 4 (Bf rfl rfl) rfl ?_ | refine dn 4 (zi rfl rfl) rfl ?_ | refine dn 4 (ady rfl rfl) rfl ?_
 refine ae (i:=5) rfl an rfl rfl (eN rfl (fun KY=>?_))
 refine⟨.inr (by first | exact Keeps.refl | exact Keeps.nil | ((repeat(first | exact fun _ h=>h | apply Keeps.cons | apply Keeps.app)) <;>fail) | (repeat(first | exact Keeps.nil | refine Keeps.one (by repeat(first | exact List.Mem.head _ | apply List.Mem.tail)) ?_))),?_⟩
 first | refine ae (i:=6) rfl an rfl rfl (eSW rfl rfl rfl ?_) | refine ae (i:=6) rfl an rfl rfl (eSA rfl rfl rfl ?_)
 refine⟨.inl (by kernel_rfl),?_⟩
 refine az ?_
 refine aA<|W.seq ?_
 refine W.DR [(yD,.cells #[I b.fl,I b.day] aw3 (0,0)),(Vo,.cells #[I k] dL (0,0)),(yC,.cells #[.pointer (some ⟨bp,0,none⟩)] aGs (0,0))] (n:=6) rfl ?_
 refine dn 0 (iQ rfl rfl) rfl ?_
 refine dn 1 (iQ rfl rfl) rfl ?_
 first | refine dn 2 (Bf rfl rfl) rfl ?_ | refine dn 2 (zi rfl rfl) rfl ?_ | refine dn 2 (ady rfl rfl) rfl ?_
 first | refine dn 3 (bg rfl rfl) rfl ?_ | refine dn 3 (aT rfl rfl) rfl ?_
 first | refine dn 4 (UN rfl rfl rfl) rfl ?_ | refine dn 4 (Qg rfl rfl rfl) rfl ?_
 first | refine ae (i:=5) rfl an rfl rfl (eSW rfl rfl rfl ?_) | refine ae (i:=5) rfl an rfl rfl (eSA rfl rfl rfl ?_)
 refine⟨.inl (by kernel_rfl),?_⟩
 refine az ?_
 refine aA<|W.seq ?_
 rw[aCz (by omega)]
 refine W.region rfl ?_
 refine agW (ayq rfl rfl rfl) rfl ?_
 refine Ops.defer (d:={target:=.fn (.func awP) #[.pointer (some ⟨KY,0,none⟩),.pointer (some ⟨yC,0,none⟩),.pointer (some ⟨Vo,0,none⟩)],args:= #[]}) rfl (aU rfl) rfl wn rfl (fun e he=>?_) ?_
 ·have e3:e (.tmp 24)= .func (.func awP) #[] #[.pointer (some ⟨KY,0,none⟩),.pointer (some ⟨yC,0,none⟩),.pointer (some ⟨Vo,0,none⟩)]:=he _ _ rfl
  simp[resolve,Deferred.ofValue,e3,gq]
 refine pq<|W.seq<|W.seq<|W.region rfl ?_
 refine agY rfl ?_
 refine agX rfl ?_
 refine agW (IJ rfl rfl rfl) rfl ?_
 refine pq ?_
 refine W.bC rfl (fun c27=>?_) (fun c27=>?_)
 ·obtain⟨fl,hfl,-⟩:=has (show b.fl.toNat<fs.length by omega)
  have hfe:Wy fs b.fl=fl:=by simp[Wy,List.getD,hfl]
  obtain⟨b0,off,c,E,fz,rfl,hb0,hx,hy,hz⟩:=hf.at hfl
  have hz0:c[off+b.fl.toNat*4+0]? =some (I fl.pl):=hz 0 (by decide)
  have aNo:b.fl<fs.length:=hb.2.2.1
  refine W.seq ?_
  refine W.rE (n:=9) rfl ?_
  refine dn 0 (ay rfl rfl) rfl ?_
  refine dn 1 (zi (vs:= #[.slice (some ⟨b0,off,none⟩) fs.length cap,.slice a' ss.length cap']) rfl rfl (hn:=by show 0+2≤3;decide) (hv:=by rfl)) rfl ?_
  refine dn 2 (iQ rfl rfl) rfl ?_
  first | refine dn 3 (bg rfl rfl) rfl ?_ | refine dn 3 (aT rfl rfl) rfl ?_
  first | refine dn 4 (Bf rfl rfl) rfl ?_ | refine dn 4 (zi rfl rfl) rfl ?_ | refine dn 4 (ady rfl rfl) rfl ?_
  refine dn 5 (ay rfl rfl) rfl ?_
  refine dn 6 (iQ rfl rfl) rfl ?_
  refine dn 8 (aN rfl rfl) rfl ?_
  refine Va (i:=7) (fun h' hE hL=>aFp _ h' fs ss (p.set k b) b.fl _ _ (hf.ext hE) (hs.ext hE) hall hp' c27 hb.2.2.1) ?_
  refine az ?_
  refine aA<|W.block ?_
  obtain⟨D,hD⟩:∃D,aw4 fs ss (p.set k b) b.fl=D:=⟨_,rfl⟩
  have hDl:D.length=22:=by rw[←hD];exact azp
  have hDs:=aDn hDl
  rw[hD]
  have hpr:prune fs ss (p.set k b) b=over fl.pl D:=by simp only[prune];rw[if_pos c27,hfe,hD]
  refine W.loop (σ:=Nat) (fun j=>j≤22∧∀i,i<j→∀s,D[i]? =some s→¬fl.pl<s.hi) (fun j=>[(36,I j),(35,aI5 D),(5,.pointer (some ⟨mZ,0,none⟩)),(8,.pointer (some ⟨yD,0,none⟩)),(4,dov)]) (fun _=>(KY,.cells #[I (qw p k).fl,I (qw p k).day] aw3 (0,0))::(yD,.cells #[I b.fl,I b.day] aw3 (0,0))::(Vo,.cells #[I k] dL (0,0))::(yC,.cells #[.pointer (some ⟨bp,0,none⟩)] aGs (0,0))::(mZ,.cells #[.slice (some ⟨b0,off,none⟩) fs.length cap,.slice a' ss.length cap',mv] aBV (0,0))::(bp,.cells (flat Be.row (p.set k b)).toArray zl (0,0))::A) (fun j=>22-j) 0 ⟨Nat.zero_le _,fun i hi=>absurd hi (Nat.not_lt_zero _)⟩ ⟨rfl,rfl,rfl,rfl,rfl,trivial⟩ .refl ?_
  rintro j ⟨hj,hn⟩
  refine W.seq<|W.region rfl ?_
  refine agW (fO rfl rfl rfl) rfl ?_
  refine pq<|W.seq ?_
  refine W.bC rfl (fun c37=>?_) (fun c37=>?_)
  ·obtain⟨s,hsk,hdr⟩:=has (show j<D.length by omega)
   have hex:(flat Sp.row D).toArray.extract ((j:Int).toNat*2) ((j:Int).toNat*2+2)= #[I s.lo,I s.hi]:=aHH hsk
   refine W.skip<|aA<|W.seq<|W.block<|W.seq<|W.region rfl ?_
   first | refine agW (Ti rfl rfl rfl (by omega) (by omega) (by first | assumption | rfl)) rfl ?_ | refine agW (Ws rfl rfl rfl (by omega) (by omega) (by first | assumption | rfl)) rfl ?_
   refine Ops.new (fun X5=>?_)
   first | refine Ops.jP ?_ | refine Ops.nY ?_
   refine pq<|W.seq ?_
   refine W.rE (n:=12) rfl ?_
   refine dn 0 (ay rfl rfl) rfl ?_
   refine dn 1 (iQ rfl rfl) rfl ?_
   refine dn 2 (ay rfl rfl) rfl ?_
   refine dn 3 (ay rfl rfl) rfl ?_
   refine dn 4 (ay rfl rfl) rfl ?_
   refine dn 5 (iQ rfl rfl) rfl ?_
   refine dn 6 (ay rfl rfl) rfl ?_
   refine dn 7 (iQ rfl rfl) rfl ?_
   first | refine dn 8 (G_ rfl rfl rfl) rfl ?_ | refine dn 8 (o_ rfl rfl rfl) rfl ?_
   refine dn 9 (ay rfl rfl) rfl ?_
   refine dn 10 (iQ rfl rfl) rfl ?_
   refine dn 11 (rC rfl rfl rfl) rfl ?_
   refine az ?_
   refine aA ?_
   refine W.bC rfl (fun c50=>?_) (fun c50=>?_)
   ·refine W.seq<|W.region rfl<|agb rfl rfl rfl<|pq<|W.ret<|cZ<|aY<|aY<|cZ ?_
    refine aY ?_
    have hpt:prune fs ss (p.set k b) b=true:=by rw[hpr,aB6 hn,hdr];simp only[over];rw[if_pos c50]
    refine X6 (A:=[(bp,.cells (flat Be.row (p.set k b)).toArray zl (0,0))]) (.tail (.tail (.tail (.tail (.tail (.tail .head)))))) (fun h' hE hL=>aBX _ h' (p.set k b) k (qw p k) bp KY yC Vo _ _ _ _ _ _ hk4 hp'.ok.len (hL _ _ (.tail _ (.head _))) (hL _ _ (.tail _ (.tail _ (.tail _ (.tail _ (.head _)))))) (hL _ _ (.tail _ (.tail _ (.tail _ (.head _)))))) (fun A' hA'=>?_)
    subst hA'
    rw[hback]
    refine mg (vs:=[.bool true]) ⟨A,aK4 hpt,?_⟩
    refine(Sb.dF List.perm_append_comm).trans ?_
    exact .cons (.skip rfl (.skip rfl (.skip rfl (.skip rfl (.skip rfl (.skip rfl .refl))))))
   ·refine W.skip<|dI<|aA<|W.region rfl ?_
    refine ag1 rfl ?_
    refine qm rfl rfl rfl<|pq ?_
    refine⟨rfl,j+1,⟨by omega,fun i hi s' hs'=>?_⟩,by omega,⟨rfl,rfl,rfl,rfl,rfl,trivial⟩,.skip rfl .refl⟩
    rcases(by omega:i<j∨i=j)with hi | rfl
    ·exact hn i hi s' hs'
    ·rw[hsk]at hs';cases hs';exact c50
  ·refine W.exit<|bP<|bP<|gG<|aA<|W.seq ?_
   have hpf:prune fs ss (p.set k b) b=false:=by
    first
    | (rw[hpr,aB6 hn,show j=D.length by omega];simp[over])
    | (simp only[prune];rw[if_neg c27])
   refine W.region rfl<|qm rfl rfl rfl ?_
   refine Ops.perm (F':=(A++[(bp,.cells (flat Be.row (p.set k b)).toArray zl (0,0))])++_) (List.perm_append_comm.trans ((List.perm_append_comm (l₁:=A) (l₂:=[_])).append_left [_,_,_,_,_])) ?_
   refine cgv .head (fun h' hE hL=>hdo hpf h' hE) (fun v A1 hv=>?_)
   obtain⟨r,rfl,B,hPB,hsb⟩:=hv
   refine Ops.sb (F':=[(bp,.cells (flat Be.row (p.set k b)).toArray zl (0,0))]++(B++_)) (((Sb.dF List.perm_append_comm).trans hsb).app .refl |> Sb.trans (.dF (by rw[List.append_assoc]))) ?_
   refine agb rfl rfl rfl<|pq<|W.ret ?_
   refine X6 (A:=[(bp,.cells (flat Be.row (p.set k b)).toArray zl (0,0))]) .head (fun h' hE hL=>aBX _ h' (p.set k b) k (qw p k) bp KY yC Vo _ _ _ _ _ _ hk4 hp'.ok.len (hL _ _ (List.mem_append_right [] (List.mem_append_right _ (by repeat(first | exact List.Mem.head _ | apply List.Mem.tail))))) (hL _ _ (List.mem_append_right [] (List.mem_append_right _ (by repeat(first | exact List.Mem.head _ | apply List.Mem.tail))))) (hL _ _ (List.mem_append_right [] (List.mem_append_right _ (by repeat(first | exact List.Mem.head _ | apply List.Mem.tail)))))) (fun A' hA'=>?_)
   subst hA'
   rw[hback]
   refine mg (vs:=[.bool r]) ⟨B,hPB,?_⟩
   refine(Sb.dF List.perm_append_comm).trans (.app .refl ?_)
   exact(show Sb B (B++[_,_,_,_,_])from .right .refl (.cons rfl (.cons rfl (.cons rfl (.cons rfl (.cons rfl .nil))))))
 ·refine W.skip<|aA<|W.seq ?_
  have hpf:prune fs ss (p.set k b) b=false:=by
   first
   | (rw[hpr,aB6 hn,show j=D.length by omega];simp[over])
   | (simp only[prune];rw[if_neg c27])
  refine W.region rfl<|qm rfl rfl rfl ?_
  refine Ops.perm (F':=(A++[(bp,.cells (flat Be.row (p.set k b)).toArray zl (0,0))])++_) (List.perm_append_comm.trans ((List.perm_append_comm (l₁:=A) (l₂:=[_])).append_left [_,_,_,_,_])) ?_
  refine cgv .head (fun h' hE hL=>hdo hpf h' hE) (fun v A1 hv=>?_)
  obtain⟨r,rfl,B,hPB,hsb⟩:=hv
  refine Ops.sb (F':=[(bp,.cells (flat Be.row (p.set k b)).toArray zl (0,0))]++(B++_)) (((Sb.dF List.perm_append_comm).trans hsb).app .refl |> Sb.trans (.dF (by rw[List.append_assoc]))) ?_
  refine agb rfl rfl rfl<|pq<|W.ret ?_
  refine X6 (A:=[(bp,.cells (flat Be.row (p.set k b)).toArray zl (0,0))]) .head (fun h' hE hL=>aBX _ h' (p.set k b) k (qw p k) bp KY yC Vo _ _ _ _ _ _ hk4 hp'.ok.len (hL _ _ (List.mem_append_right [] (List.mem_append_right _ (by repeat(first | exact List.Mem.head _ | apply List.Mem.tail))))) (hL _ _ (List.mem_append_right [] (List.mem_append_right _ (by repeat(first | exact List.Mem.head _ | apply List.Mem.tail))))) (hL _ _ (List.mem_append_right [] (List.mem_append_right _ (by repeat(first | exact List.Mem.head _ | apply List.Mem.tail)))))) (fun A' hA'=>?_)
  subst hA'
  rw[hback]
  refine mg (vs:=[.bool r]) ⟨B,hPB,?_⟩
  refine(Sb.dF List.perm_append_comm).trans (.app .refl ?_)
  exact(show Sb B (B++[_,_,_,_,_])from .right .refl (.cons rfl (.cons rfl (.cons rfl (.cons rfl (.cons rfl .nil))))))
end Go.aS

/- The types of functions, as facts. Conditions: none. -/
namespace Go.Proofs.YtahkljmgmgacjabGreatDoor
open Go Go.aS
set_option maxRecDepth 100000
instance:TD Tryz.prog 51 (.struct #[⟨"Floor",3,0,false, "", "",0⟩,⟨"Day",3,1,false, "", "",8⟩]):=⟨by kernel_rfl⟩
instance:SC Tryz.prog 55:=⟨by kernel_rfl⟩
instance:TI Tryz.prog 55 1 8 .nilFunc #[.nilFunc]:=⟨by kernel_rfl,rfl⟩
instance:SC Tryz.prog 73:=⟨by kernel_rfl⟩
instance:TI Tryz.prog 73 1 8 .nilFunc #[.nilFunc]:=⟨by kernel_rfl,rfl⟩
instance:SC Tryz.prog 105:=⟨by kernel_rfl⟩
instance:SC Tryz.prog 111:=⟨by kernel_rfl⟩
instance:TI Tryz.prog 111 1 8 .nilFunc #[.nilFunc]:=⟨by kernel_rfl,rfl⟩
instance:SC Tryz.prog 112:=⟨by kernel_rfl⟩
instance:TI Tryz.prog 112 1 8 .nilFunc #[.nilFunc]:=⟨by kernel_rfl,rfl⟩
instance:SC Tryz.prog 136:=⟨by kernel_rfl⟩
instance:SC Tryz.prog 146:=⟨by kernel_rfl⟩
end Go.Proofs.YtahkljmgmgacjabGreatDoor

/- The berths of a strike. Conditions: none; over the given program. -/
namespace Go.aS
set_option maxRecDepth 100000
set_option maxHeartbeats 4000000
def aFZ(main:Side)(mv:Value)(may:May)(h:Hp):Prop:=∀h',Ext h h'→∀k:Nat,k<4→PuV prog main mv [I k] h' (.tuple #[.bool (may k).1,.bool (may k).2])
theorem aFZ.ext{main:Side}{mv:Value}{may:May}{h h':Hp}(H:aFZ main mv may h)(e:Ext h h'):aFZ main mv may h':=fun h2 e2=>H h2 (e.trans e2)

abbrev aL0(b2 b3:Nat):Value:=.func (.func aw7) #[] #[.pointer (some ⟨b2,0,none⟩),.pointer (some ⟨b3,0,none⟩)]
theorem aFr(main:Side)(h:Hp)(vf vs mv:Value)(k:Nat)(h1:one vf=true)(h2:one vs=true)(h3:one mv=true):dV prog main ay5 #[aDM vf vs mv,I k] h [] (fun v A=>∃b2 b3,v=aL0 b2 b3∧A=[(b3,.cells #[I k] dL (0,0)),(b2,.cells #[vf,vs,mv] aBV (0,0))]):=by
 refine dV.aG aAZ rfl (by show 2≤6;decide) [(0,aDM vf vs mv),(1,I k)] ⟨rfl,rfl,trivial⟩ ?_
 refine W.seq<|W.region rfl ?_
 refine Ops.box (fun yR=>?_)
 refine Ops.box (fun uU=>?_)
 refine agb rfl rfl rfl<|pq<|W.seq<|W.region rfl ?_
 refine agW (ayq rfl rfl rfl) rfl ?_
 refine agb rfl rfl rfl<|pq<|W.ret ?_
 exact mg ⟨_,_,rfl,rfl⟩

theorem aFs{σ X:Type}{step:σ→X→σ×Bool}{s s':σ}{p:X}{xs:List X}(h:step s p=(s',false)):runs step s (p::xs)=(s',false):=by simp only[runs,h]
theorem aJ4{σ X:Type}{step:σ→X→σ×Bool}{s s':σ}{p:X}{xs:List X}(h:step s p=(s',true)):runs step s (p::xs)=runs step s' xs:=by simp only[runs,h]
theorem aAs{σ:Type}{r:σ×Bool}{b:Bool}(h:r.2=b):∃s',r=(s',b):=⟨r.1,by rw[←h]⟩

theorem adS{b:Bool}(h:(!b)=true):b=false:=by simpa using h
theorem adT{b:Bool}(h:(!b)=false):b=true:=by simpa using h
section
variable{σ X:Type}{step:σ→X→σ×Bool}{s:σ}{p:X}{xs rest:List X}{J K:σ→eG→Prop}{B:eG}
theorem aFt{y:Nat×Obj}(e:(!(step s p).2)=true)(h:match step s p with | (s,true)=>J s B | (s,false)=>K s B)(hG:opn y.2=false):Out J K (runs step s (p::rest)) (y::B):=by
 obtain⟨s',hs⟩:=aAs (adS e)
 rw[hs]at h
 exact⟨B,.skip hG .refl,by rw[aFs hs];exact h⟩
theorem out_stop(hx:xs=p::rest)(e:(!(step s p).2)=true)(h:match step s p with | (s,true)=>J s B | (s,false)=>K s B):Out J K (runs step s xs) B:=by
 obtain⟨s',hs⟩:=aAs (adS e)
 rw[hs]at h
 exact⟨B,.refl,by rw[hx,aFs hs];exact h⟩
theorem aF0(hx:xs=[p])(e:(!(step s p).2)=false)(h:match step s p with | (s,true)=>J s B | (s,false)=>K s B):Out J K (runs step s xs) B:=by
 obtain⟨s',hs⟩:=aAs (adT e)
 rw[hs]at h
 exact⟨B,.refl,by rw[hx,aJ4 hs];exact h⟩
theorem aEy(hx:xs=[])(h:J s B):Out J K (runs step s xs) B:=⟨B,.refl,by rw[hx];exact h⟩
theorem aGy(hx:xs=p::rest)(e:(!(step s p).2)=false)(h:match step s p with | (s,true)=>J s B | (s,false)=>K s B):∃s1,J s1 B∧Far step s xs s1 rest:=by
 obtain⟨s',hs⟩:=aAs (adT e)
 rw[hs]at h
 exact⟨s',h,by rw[hx];exact Far.zero.next hs⟩
end
theorem aDN(main:Side)(h:Hp)(fs:List Fl)(ss:List St)(may:May)(k:Nat)(vf vs mv:Value)(b2 b3:Nat)(E2 E3:TypeId)(z2 z3:Nat×Nat)(hf:Sl h Fl.row vf fs)(hs:Sl h St.row vs ss)(hall:Ju fs ss)(hk:k<ss.length)(hm:aFZ main mv may h)
  (h2:h b2=some (.cells #[vf,vs,mv] E2 z2)) (h3:h b3=some (.cells #[I k] E3 z3)):Iter prog main (aL0 b2 b3) Be.val (jc fs ss may k) h:=by
 intro h' hE0 yv hy1 σ nx step J K hy s A hal hJ
 have h2':=hE0.1 _ _ h2
 have h3':=hE0.1 _ _ h3
 have hs0:=hs.ext hE0
 obtain⟨a,cap,rfl⟩:=hf.dA
 obtain⟨a',cap',rfl⟩:=hs.dA
 have hk4:k<4:=by have:=hall.ns;omega
 have hnf:=hall.nf
 obtain⟨x,hx,-⟩:=has hk
 have hxe:ax6 ss k=x:=by simp[ax6,List.getD,hx]
 have hxo:=hall.st x (List.mem_of_getElem? hx)
 obtain⟨b,off,c,E,fz,rfl,hb,hx1,hy1,hz1⟩:=hs0.at hx
 have hx2:c.extract (off+k*3) (off+k*3+3)= #[I x.day,I x.co,I x.wa]:=hx1
 clear hx1 hz1
 obtain⟨inn,hin⟩:∃i,(may k).1=i:=⟨_,rfl⟩
 obtain⟨out,hout⟩:∃i,(may k).2=i:=⟨_,rfl⟩
 have hB:jc fs ss may k=(if out then[TL]else[])++(if inn then DF x 0 fs.length else[]):=by simp only[jc,hin,hout,hxe]
 refine gZ.zh (f:=aw7) (fi:=[]) (ca:=[.pointer (some ⟨b2,0,none⟩),.pointer (some ⟨b3,0,none⟩)]) ?_
 refine dV.aG aAw rfl (by show 3≤60;decide) [(0,yv),(1,.pointer (some ⟨b2,0,none⟩)),(2,.pointer (some ⟨b3,0,none⟩))] ⟨rfl,rfl,rfl,trivial⟩ ?_
 refine W.seq<|W.region rfl ?_
 refine agY rfl ?_
 refine agX rfl ?_
 refine agX rfl ?_
 refine cv (fun h2 hE hL=>hm h2 (hE0.trans hE) k hk4) ?_
 rw[hin,hout]
 refine qm rfl rfl rfl<|oq (bD rfl rfl rfl) rfl wn rfl rfl<|oq (bD rfl rfl rfl) rfl wn rfl rfl<|agb rfl rfl rfl<|agb rfl rfl rfl<|pq<|W.seq<|W.seq<|W.region rfl ?_
 refine qm rfl rfl rfl<|qm rfl rfl rfl ?_
 refine Ops.RV (fun aCT=>?_) (fun aCT=>?_)
 ·refine oq (aN rfl rfl) rfl (ak rfl rfl rfl) rfl rfl ?_
  refine oq (eH rfl rfl rfl) rfl (ak rfl rfl rfl) rfl rfl ?_
  have ho:out=true:=aCT
  refine Ops.perm (F':=A++[]) (by simp) ?_
  refine cgv .head (fun h2 hE hL=>hy h2 hE s TL A (hal.far (rest:=if inn then DF x 0 fs.length else[]) (by rw[hB,ho];exact .zero)) hJ) (fun r B1 hr1=>?_)
  obtain⟨rfl,A,hsb,hBJ⟩:=hr1
  refine Ops.sb (F':=A) (by simpa using hsb) ?_
  refine oq (xU rfl rfl) rfl (ak rfl rfl rfl) rfl rfl ?_
  refine agW (dG rfl rfl rfl) rfl ?_
  refine qm rfl rfl rfl ?_
  refine Ops.RV (fun aF2=>?_) (fun aF2=>?_)
  ·refine Ops.no ?_
   refine Ops.no ?_
   refine agW (dG rfl rfl rfl) rfl ?_
   refine pq ?_
   refine W.dW ?_
   refine W.ret<|aY ?_
   first
   | exact mg (out_stop (rest:=if inn then DF x 0 fs.length else[]) (by rw[hB,aCT];rfl) aF2 hBJ)
   | exact mg (aF0 (by rw[hB,aCT,adS c26];rfl) aF2 hBJ)
   | exact mg (aEy (by rw[hB,aCT,adS c26];rfl) hJ)
  ·refine oq (aN rfl rfl) rfl (ak rfl rfl rfl) rfl rfl ?_
   refine oq (xU rfl rfl) rfl (ak rfl rfl rfl) rfl rfl ?_
   refine agW (iH rfl rfl rfl) rfl ?_
   refine pq ?_
   refine W.cond rfl (fun c26=>?_) (fun c26=>?_)
   ·refine W.ret<|aY ?_
    first
    | exact mg (out_stop (rest:=if inn then DF x 0 fs.length else[]) (by rw[hB,aCT];rfl) aF2 hBJ)
    | exact mg (aF0 (by rw[hB,aCT,adS c26];rfl) aF2 hBJ)
    | exact mg (aEy (by rw[hB,aCT,adS c26];rfl) hJ)
   ·have aI7:inn=true:=by simpa using c26
    obtain⟨s1,hJ1,hrun⟩:∃s1,J s1 A∧Far step s (jc fs ss may k) s1 (DF x 0 fs.length):=by
     first
     | exact⟨s,hJ,by rw[hB,aI7,aCT];exact .zero⟩
     | exact aGy (by rw[hB,aI7,aCT];rfl) aF2 hBJ
    refine W.skip<|aA<|W.seq<|W.region rfl ?_
    refine agY rfl ?_
    refine agY rfl ?_
    refine agY rfl ?_
    refine agX rfl ?_
    refine agX rfl ?_
    refine ag3 rfl ?_
    first | refine ag2 rfl ?_ | refine agW (ady rfl rfl) rfl ?_
    refine Ops.new (fun yC=>?_)
    first | refine Ops.jP ?_ | refine Ops.nY ?_
    refine pq<|W.seq<|W.region rfl ?_
    refine agY rfl ?_
    refine agY rfl ?_
    refine agY rfl ?_
    refine agX rfl ?_
    refine agW (dM rfl rfl) rfl ?_
    refine qm rfl rfl rfl<|pq<|W.block ?_
    refine W.Js (fun(j:Nat) (t:σ) (C:eG)=>j≤fs.length∧J t C∧Far step s (jc fs ss may k) t (DF x j (fs.length-j))) (fun j t C=>[(39,I j),(38,I fs.length),(6,.pointer (some ⟨yC,0,none⟩)),(0,yv)]) (fun j t C=>(yC,.cells #[I x.day,I x.co,I x.wa] az4 (0,0))::C) (fun j _ _=>fs.length-j) 0 s1 A ⟨Nat.zero_le _,hJ1,hrun⟩ ⟨rfl,rfl,rfl,rfl,trivial⟩ .refl ?_
    rintro j t C ⟨hj,hJt,hr⟩
    refine W.seq<|W.region rfl ?_
    refine agW (fO rfl rfl rfl) rfl ?_
    refine pq<|W.seq ?_
    refine W.bC rfl (fun c40=>?_) (fun c40=>?_)
    ·obtain⟨m0,hm0⟩:∃m0,fs.length-j=m0+1:=⟨fs.length-j-1,by omega⟩
     rw[hm0]at hr
     have aK5:fs.length- (j+1)=m0:=by omega
     refine W.skip<|aA<|W.seq<|W.block<|W.seq<|W.region rfl<|qm rfl rfl rfl<|agb rfl rfl rfl<|pq ?_
     refine W.seq<|W.region rfl ?_
     refine agY rfl ?_
     refine agX rfl ?_
     refine agb rfl rfl rfl<|pq<|W.block ?_
     refine W.Js (fun(m:Nat) (t:σ) (C:eG)=>m≤(x.wa+1).toNat∧J t C∧Far step s (jc fs ss may k) t (atI j (x.day+(x.wa+1-m)) m++DF x (j+1) m0)) (fun m t C=>[(8,I (x.day+(x.wa+1-m))),(7,I j),(39,I j),(38,I fs.length),(6,.pointer (some ⟨yC,0,none⟩)),(0,yv)]) (fun m t C=>(yC,.cells #[I x.day,I x.co,I x.wa] az4 (0,0))::C) (fun m _ _=>m) (x.wa+1).toNat t C ⟨Nat.le_refl _,hJt,by rw[show x.day+(x.wa+1- ((x.wa+1).toNat:Int))=x.day by omega];exact hr⟩ ⟨lk rfl (show I _=I _ by congr 1;omega),rfl,rfl,rfl,rfl,rfl,trivial⟩ .refl ?_
     clear hr hJt
     rintro m t C ⟨hm,hJt,hr⟩
     refine W.seq<|W.seq<|W.region rfl<|qm rfl rfl rfl ?_
     refine agY rfl ?_
     refine agX rfl ?_
     refine agY rfl ?_
     refine agX rfl ?_
     refine ag1 rfl ?_
     refine agW (Lr rfl rfl rfl) rfl ?_
     refine pq ?_
     refine W.bC rfl (fun c50=>?_) (fun c50=>?_)
     ·obtain⟨m1,rfl⟩:∃m1,m=m1+1:=⟨m-1,by omega⟩
      obtain⟨d,hd⟩:∃d,x.day+(x.wa+1- ((m1+1:Nat):Int))=d:=⟨_,rfl⟩
      rw[hd]at hr⊢
      rw[atI,List.cons_append]at hr
      refine W.skip<|aA<|W.seq<|W.block<|W.seq<|W.region rfl<|qm rfl rfl rfl<|qm rfl rfl rfl<|qm rfl rfl rfl ?_
      refine agW (eH rfl rfl rfl) rfl ?_
      refine cgv (.tail .all) (fun h2 hE hL=>hy h2 hE t ⟨j,d⟩ C (hal.far hr) hJt) (fun r B1 hr1=>?_)
      obtain⟨rfl,C2,hsb,hBJ⟩:=hr1
      refine Ops.sb (.cons hsb) ?_
      refine agW (xU rfl rfl) rfl ?_
      refine pq ?_
      refine W.cond rfl (fun c58=>?_) (fun c58=>?_)
      ·refine W.ret<|cZ<|aY<|aY<|cZ<|cZ<|aY<|aY<|cZ ?_
       refine mg ?_
       rw[hr.eq]
       exact aFt c58 hBJ rfl
      ·refine W.skip<|dI<|aA<|W.region rfl<|qm rfl rfl rfl ?_
       refine ag1 rfl ?_
       refine agb rfl rfl rfl<|pq ?_
       obtain⟨t',ht⟩:=aAs (adT c58)
       rw[ht]at hBJ
       refine⟨rfl,m1,t',C2,⟨by omega,hBJ,?_⟩,by omega,⟨lk rfl (show I _=I _ by congr 1;omega),rfl,rfl,rfl,rfl,rfl,trivial⟩,.refl⟩
       have:=hr.next ht
       rwa[show d+1=x.day+(x.wa+1-m1) by omega]at this
     ·have:m=0:=by omega
      subst this
      refine W.exit<|bP<|bP<|gG<|dI<|aA<|W.region rfl ?_
      refine ag1 rfl ?_
      refine qm rfl rfl rfl<|pq ?_
      exact⟨rfl,j+1,t,C,⟨by omega,hJt,by rw[aK5];exact hr⟩,by omega,⟨rfl,rfl,rfl,rfl,trivial⟩,.refl⟩
    ·refine W.exit<|bP<|bP<|gG ?_
     refine mg ⟨C,.skip rfl .refl,?_⟩
     rw[hr.eq,show fs.length-j=0 by omega]
     exact hJt
 ·refine Ops.no ?_
  refine Ops.no ?_
  refine Ops.no ?_
  refine Ops.no ?_
  refine agW (iH rfl rfl rfl) rfl ?_
  refine qm rfl rfl rfl ?_
  refine oq (aN rfl rfl) rfl (ak rfl rfl rfl) rfl rfl ?_
  refine oq (xU rfl rfl) rfl (ak rfl rfl rfl) rfl rfl ?_
  refine agW (iH rfl rfl rfl) rfl ?_
  refine pq ?_
  refine W.cond rfl (fun c26=>?_) (fun c26=>?_)
  ·refine W.ret<|aY ?_
   first
   | exact mg (out_stop (rest:=if inn then DF x 0 fs.length else[]) (by rw[hB,aCT];rfl) aF2 hBJ)
   | exact mg (aF0 (by rw[hB,aCT,adS c26];rfl) aF2 hBJ)
   | exact mg (aEy (by rw[hB,aCT,adS c26];rfl) hJ)
  ·have aI7:inn=true:=by simpa using c26
   obtain⟨s1,hJ1,hrun⟩:∃s1,J s1 A∧Far step s (jc fs ss may k) s1 (DF x 0 fs.length):=by
    first
    | exact⟨s,hJ,by rw[hB,aI7,aCT];exact .zero⟩
    | exact aGy (by rw[hB,aI7,aCT];rfl) aF2 hBJ
   refine W.skip<|aA<|W.seq<|W.region rfl ?_
   refine agY rfl ?_
   refine agY rfl ?_
   refine agY rfl ?_
   refine agX rfl ?_
   refine agX rfl ?_
   refine ag3 rfl ?_
   first | refine ag2 rfl ?_ | refine agW (ady rfl rfl) rfl ?_
   refine Ops.new (fun yC=>?_)
   first | refine Ops.jP ?_ | refine Ops.nY ?_
   refine pq<|W.seq<|W.region rfl ?_
   refine agY rfl ?_
   refine agY rfl ?_
   refine agY rfl ?_
   refine agX rfl ?_
   refine agW (dM rfl rfl) rfl ?_
   refine qm rfl rfl rfl<|pq<|W.block ?_
   refine W.Js (fun(j:Nat) (t:σ) (C:eG)=>j≤fs.length∧J t C∧Far step s (jc fs ss may k) t (DF x j (fs.length-j))) (fun j t C=>[(39,I j),(38,I fs.length),(6,.pointer (some ⟨yC,0,none⟩)),(0,yv)]) (fun j t C=>(yC,.cells #[I x.day,I x.co,I x.wa] az4 (0,0))::C) (fun j _ _=>fs.length-j) 0 s1 A ⟨Nat.zero_le _,hJ1,hrun⟩ ⟨rfl,rfl,rfl,rfl,trivial⟩ .refl ?_
   rintro j t C ⟨hj,hJt,hr⟩
   refine W.seq<|W.region rfl ?_
   refine agW (fO rfl rfl rfl) rfl ?_
   refine pq<|W.seq ?_
   refine W.bC rfl (fun c40=>?_) (fun c40=>?_)
   ·obtain⟨m0,hm0⟩:∃m0,fs.length-j=m0+1:=⟨fs.length-j-1,by omega⟩
    rw[hm0]at hr
    have aK5:fs.length- (j+1)=m0:=by omega
    refine W.skip<|aA<|W.seq<|W.block<|W.seq<|W.region rfl<|qm rfl rfl rfl<|agb rfl rfl rfl<|pq ?_
    refine W.seq<|W.region rfl ?_
    refine agY rfl ?_
    refine agX rfl ?_
    refine agb rfl rfl rfl<|pq<|W.block ?_
    refine W.Js (fun(m:Nat) (t:σ) (C:eG)=>m≤(x.wa+1).toNat∧J t C∧Far step s (jc fs ss may k) t (atI j (x.day+(x.wa+1-m)) m++DF x (j+1) m0)) (fun m t C=>[(8,I (x.day+(x.wa+1-m))),(7,I j),(39,I j),(38,I fs.length),(6,.pointer (some ⟨yC,0,none⟩)),(0,yv)]) (fun m t C=>(yC,.cells #[I x.day,I x.co,I x.wa] az4 (0,0))::C) (fun m _ _=>m) (x.wa+1).toNat t C ⟨Nat.le_refl _,hJt,by rw[show x.day+(x.wa+1- ((x.wa+1).toNat:Int))=x.day by omega];exact hr⟩ ⟨lk rfl (show I _=I _ by congr 1;omega),rfl,rfl,rfl,rfl,rfl,trivial⟩ .refl ?_
    clear hr hJt
    rintro m t C ⟨hm,hJt,hr⟩
    refine W.seq<|W.seq<|W.region rfl<|qm rfl rfl rfl ?_
    refine agY rfl ?_
    refine agX rfl ?_
    refine agY rfl ?_
    refine agX rfl ?_
    refine ag1 rfl ?_
    refine agW (Lr rfl rfl rfl) rfl ?_
    refine pq ?_
    refine W.bC rfl (fun c50=>?_) (fun c50=>?_)
    ·obtain⟨m1,rfl⟩:∃m1,m=m1+1:=⟨m-1,by omega⟩
     obtain⟨d,hd⟩:∃d,x.day+(x.wa+1- ((m1+1:Nat):Int))=d:=⟨_,rfl⟩
     rw[hd]at hr⊢
     rw[atI,List.cons_append]at hr
     refine W.skip<|aA<|W.seq<|W.block<|W.seq<|W.region rfl<|qm rfl rfl rfl<|qm rfl rfl rfl<|qm rfl rfl rfl ?_
     refine agW (eH rfl rfl rfl) rfl ?_
     refine cgv (.tail .all) (fun h2 hE hL=>hy h2 hE t ⟨j,d⟩ C (hal.far hr) hJt) (fun r B1 hr1=>?_)
     obtain⟨rfl,C2,hsb,hBJ⟩:=hr1
     refine Ops.sb (.cons hsb) ?_
     refine agW (xU rfl rfl) rfl ?_
     refine pq ?_
     refine W.cond rfl (fun c58=>?_) (fun c58=>?_)
     ·refine W.ret<|cZ<|aY<|aY<|cZ<|cZ<|aY<|aY<|cZ ?_
      refine mg ?_
      rw[hr.eq]
      exact aFt c58 hBJ rfl
     ·refine W.skip<|dI<|aA<|W.region rfl<|qm rfl rfl rfl ?_
      refine ag1 rfl ?_
      refine agb rfl rfl rfl<|pq ?_
      obtain⟨t',ht⟩:=aAs (adT c58)
      rw[ht]at hBJ
      refine⟨rfl,m1,t',C2,⟨by omega,hBJ,?_⟩,by omega,⟨lk rfl (show I _=I _ by congr 1;omega),rfl,rfl,rfl,rfl,rfl,trivial⟩,.refl⟩
      have:=hr.next ht
      rwa[show d+1=x.day+(x.wa+1-m1) by omega]at this
    ·have:m=0:=by omega
     subst this
     refine W.exit<|bP<|bP<|gG<|dI<|aA<|W.region rfl ?_
     refine ag1 rfl ?_
     refine qm rfl rfl rfl<|pq ?_
     exact⟨rfl,j+1,t,C,⟨by omega,hJt,by rw[aK5];exact hr⟩,by omega,⟨rfl,rfl,rfl,rfl,trivial⟩,.refl⟩
   ·refine W.exit<|bP<|bP<|gG ?_
    refine mg ⟨C,.skip rfl .refl,?_⟩
    rw[hr.eq,show fs.length-j=0 by omega]
    exact hJt
end Go.aS
