/- Boils checked. Conditions: none; over the given program. (And 12 texts more.) -/
import Derived.Test.YtamjhbmelpkgpaaDoorR07
import Derived.Test.YtamjhbmelpkgpaaDoorR06
set_option linter.unusedVariables false
set_option linter.unusedSimpArgs false
set_option linter.unusedSectionVars false

/- Boils checked. Conditions: none; over the given program. -/
namespace Go.aS
set_option maxRecDepth 100000
set_option maxHeartbeats 4000000
theorem aw2(main:Side)(h:Hp)(n lo hi:Int):Pu prog main ax3 #[I n,I lo,I hi] h (.bool (decide (lo≤n∧n≤hi))):=by
 refine dV.aG azg rfl (by show 3≤15;decide) [(0,I n),(1,I lo),(2,I hi)] ⟨rfl,rfl,rfl,trivial⟩ ?_
 refine W.seq<|W.region rfl<|agb rfl rfl rfl<|pq<|W.seq<|W.region rfl<|qm rfl rfl rfl<|qm rfl rfl rfl ?_
 refine agW (Lr rfl rfl rfl) rfl ?_
 refine qm rfl rfl rfl ?_
 refine Ops.ask (fun ae5=>?_) (fun ae5=>?_)
 ·refine oq (aN rfl rfl) rfl (ak rfl rfl rfl) rfl rfl ?_
  refine oq (aN rfl rfl) rfl (ak rfl rfl rfl) rfl rfl ?_
  refine oq (Lr rfl rfl rfl) rfl (ak rfl rfl rfl) rfl rfl ?_
  refine agW (dG rfl rfl rfl) rfl ?_
  refine agb rfl rfl rfl<|pq<|W.ret ?_
  refine uZ ?_
  refine congrArg Value.bool ?_
  simp only[Bool.decide_and]
  simp[*]
 ·refine Ops.no ?_
  refine Ops.no ?_
  refine Ops.no ?_
  refine agW (iH rfl rfl rfl) rfl ?_
  refine agb rfl rfl rfl<|pq<|W.ret ?_
  refine uZ ?_
  refine congrArg Value.bool ?_
  simp only[Bool.decide_and]
  simp[*]

theorem az_(main:Side)(h:Hp)(s:Spn)(m:Int)(hs:0≤s.lo∧s.lo≤s.hi∧s.hi≤m):Pu prog main aw4 #[s.val,I m] h (I 0):=by
 refine dV.aG ays rfl (by show 2≤22;decide) [(0,s.val),(1,I m)] ⟨rfl,rfl,trivial⟩ ?_
 refine W.seq<|W.region rfl ?_
 refine Ops.box (fun yR=>?_)
 refine agb rfl rfl rfl<|pq<|W.seq<|W.seq<|W.region rfl ?_
 refine agY rfl ?_
 refine agX rfl ?_
 refine qm rfl rfl rfl ?_
 refine cp (fun h' hE hL=>aw2 _ h' _ _ _) ?_
 refine agW (xU rfl rfl) rfl ?_
 refine qm rfl rfl rfl ?_
 refine Ops.RV (fun aCu=>?_) (fun aCu=>?_)
 ·refine Ops.no ?_
  refine Ops.no ?_
  refine Ops.no ?_
  refine Ops.no ?_
  refine Ops.no ?_
  refine agW (dG rfl rfl rfl) rfl ?_
  refine pq ?_
  refine W.dW ?_
  refine W.seq<|W.region rfl<|agb rfl rfl rfl<|pq<|W.ret<|aY ?_
  exfalso
  simp only[Bool.not_eq_true',decide_eq_false_iff_not]at*
  omega
 ·refine oq (ay rfl rfl) rfl (ak rfl rfl rfl) rfl rfl ?_
  refine oq (iQ rfl rfl) rfl (ak rfl rfl rfl) rfl rfl ?_
  refine oq (aN rfl rfl) rfl (ak rfl rfl rfl) rfl rfl ?_
  refine cp (fun h' hE hL=>aw2 _ h' _ _ _) ?_
  refine oq (xU rfl rfl) rfl (ak rfl rfl rfl) rfl rfl ?_
  refine agW (iH rfl rfl rfl) rfl ?_
  refine pq ?_
  refine W.cond rfl (fun c16=>?_) (fun c16=>?_)
  ·refine W.seq<|W.region rfl<|agb rfl rfl rfl<|pq<|W.ret<|aY ?_
   exfalso
   simp only[Bool.not_eq_true',decide_eq_false_iff_not]at*
   omega
  ·refine W.skip<|aA<|W.seq<|W.seq<|W.region rfl ?_
   refine agY rfl ?_
   refine agX rfl ?_
   refine agY rfl ?_
   refine agX rfl ?_
   refine agW (rC rfl rfl rfl) rfl ?_
   refine pq ?_
   refine W.bC rfl (fun c21=>?_) (fun c21=>?_)
   ·refine W.seq<|W.region rfl<|agb rfl rfl rfl<|pq<|W.ret<|aY ?_
    exact absurd c21 (by omega)
   ·refine W.skip<|aA<|W.seq<|W.region rfl<|agb rfl rfl rfl<|pq<|W.ret ?_
    exact uZ rfl

theorem ayN(main:Side)(h:Hp)(l:List Spn)(v:Value)(many m:Int)(hf:Sl h Spn.row v l)(h1:1≤l.length)(h2:(l.length:Int)≤many)(h3:l.length≤1000)(hs:∀s∈l,0≤s.lo∧s.lo≤s.hi∧s.hi≤m):Pu prog main awT #[v,I many,I m] h (I 0):=by
 obtain⟨a,cap,rfl⟩:=hf.dA
 refine dV.aG ayh rfl (by show 3≤33;decide) [(0,.slice a l.length cap),(1,I many),(2,I m)] ⟨rfl,rfl,rfl,trivial⟩ ?_
 refine W.seq<|W.region rfl<|agb rfl rfl rfl<|pq<|W.seq<|W.seq<|W.region rfl<|qm rfl rfl rfl ?_
 refine agW (dM rfl rfl) rfl ?_
 refine agb rfl rfl rfl<|pq<|W.block<|W.seq<|W.region rfl<|qm rfl rfl rfl ?_
 refine agW (fO rfl rfl rfl) rfl ?_
 refine agb rfl rfl rfl<|pq ?_
 refine W.bC rfl (fun c13=>?_) (fun c13=>?_)
 ·refine W.seq<|W.region rfl<|agb rfl rfl rfl<|pq<|W.ret<|cZ<|aY ?_
  exfalso
  omega
 ·refine W.seq<|W.region rfl<|qm rfl rfl rfl<|qm rfl rfl rfl ?_
  refine agW (rC rfl rfl rfl) rfl ?_
  refine agb rfl rfl rfl<|pq ?_
  refine W.bC rfl (fun c16=>?_) (fun c16=>?_)
  ·refine W.seq<|W.region rfl<|agb rfl rfl rfl<|pq<|W.ret<|cZ<|aY ?_
   exfalso
   omega
  ·refine W.skip<|dI<|aA<|W.seq<|W.seq<|W.region rfl<|qm rfl rfl rfl ?_
   refine agW (dM rfl rfl) rfl ?_
   refine qm rfl rfl rfl<|pq<|W.block ?_
   refine W.loop (σ:=Nat) (fun k=>k≤l.length) (fun k=>[(22,I k),(21,I l.length),(20,.slice a l.length cap),(2,I m)]) (fun _=>[]) (fun k=>l.length-k) 0 (Nat.zero_le _) ⟨rfl,rfl,rfl,rfl,trivial⟩ .refl ?_
   rintro k hk
   refine W.seq<|W.region rfl ?_
   refine agW (fO rfl rfl rfl) rfl ?_
   refine pq<|W.seq ?_
   refine W.bC rfl (fun c23=>?_) (fun c23=>?_)
   ·obtain⟨p,hp,hdr⟩:=has (show k<l.length by omega)
    have hps:=hs p (List.mem_of_getElem? hp)
    obtain⟨b,off,c,E,fz,rfl,hb,hx,hy,hz⟩:=hf.at hp
    have hx':c.extract (off+k*2) (off+k*2+2)= #[I p.lo,I p.hi]:=hx
    clear hx hz
    refine W.skip<|aA<|W.seq<|W.block<|W.seq<|W.region rfl ?_
    refine ag3 rfl ?_
    first | refine ag2 rfl ?_ | refine agW (ady rfl rfl) rfl ?_
    refine Ops.new (fun Uw=>?_)
    first | refine Ops.jP ?_ | refine Ops.nY ?_
    refine pq<|W.seq<|W.region rfl ?_
    first | refine ag2 rfl ?_ | refine agW (ady rfl rfl) rfl ?_
    refine qm rfl rfl rfl ?_
    refine cp (fun h' hE hL=>az_ _ h' p m hps) ?_
    refine agb rfl rfl rfl<|pq<|W.seq<|W.region rfl<|qm rfl rfl rfl ?_
    refine agW (nG rfl rfl rfl) rfl ?_
    refine pq ?_
    refine W.bC rfl (fun c30=>?_) (fun c30=>?_)
    ·refine W.seq<|W.region rfl<|qm rfl rfl rfl<|agb rfl rfl rfl<|pq<|W.ret<|cZ<|aY<|aY ?_
     refine cZ<|aY ?_
     exact absurd rfl ‹_›
    ·refine W.skip<|dI<|aA<|W.region rfl ?_
     refine ag1 rfl ?_
     refine qm rfl rfl rfl<|pq ?_
     exact⟨rfl,k+1,by omega,by omega,⟨rfl,rfl,rfl,rfl,trivial⟩,TW⟩
   ·skip
    refine W.exit<|bP<|bP<|gG<|aA<|W.seq<|W.region rfl<|agb rfl rfl rfl<|pq ?_
    refine W.ret ?_
    exact uZ rfl

theorem azY(main:Side)(h:Hp)(m1 m2 m3:Int)(v:Value)(hf:Sl h fH v [m1,m2,m3])(hs:1≤m1∧m1<m2∧m2<m3∧m3≤60):Pu prog main awX #[v] h (I 0):=by
 obtain⟨l,hl⟩:∃l,l=[m1,m2,m3]:=⟨_,rfl⟩
 rw[←hl]at hf
 have h3:l.length=3:=by rw[hl];rfl
 have hm:∀m∈l,1≤m∧m≤60:=by
  rw[hl];intro m hm
  simp only[List.mem_cons,List.not_mem_nil,or_false]at hm
  omega
 have g0:l[0]? =some m1:=by rw[hl];rfl
 have g1:l[1]? =some m2:=by rw[hl];rfl
 have g2:l[2]? =some m3:=by rw[hl];rfl
 obtain⟨a,cap,rfl⟩:=hf.dA
 obtain⟨b,off,c,E,fz,e3,hb,hx,hy,hz⟩:=hf.at g0
 cases e3
 have x0:c[off+0*1+0]? =some (I m1):=hz 0 (by decide)
 clear hx hz hy
 obtain⟨b',off',c',E',fz',e3,hb',hx,hy,hz⟩:=hf.at g1
 cases e3
 rw[hb]at hb'
 cases hb'
 have x1:c[off+1*1+0]? =some (I m2):=hz 0 (by decide)
 clear hx hz hy
 obtain⟨b',off',c',E',fz',e3,hb',hx,hy,hz⟩:=hf.at g2
 cases e3
 rw[hb]at hb'
 cases hb'
 have x2:c[off+2*1+0]? =some (I m3):=hz 0 (by decide)
 clear hx hz hy
 refine dV.aG ayi rfl (by show 1≤34;decide) [(0,.slice (some ⟨b,off,none⟩) l.length cap)] ⟨rfl,trivial⟩ ?_
 refine W.seq<|W.region rfl<|agb rfl rfl rfl<|pq<|W.seq<|W.seq<|W.region rfl<|qm rfl rfl rfl ?_
 refine agW (dM rfl rfl) rfl ?_
 refine agW (nG rfl rfl rfl) rfl ?_
 refine pq ?_
 refine W.bC rfl (fun c7=>?_) (fun c7=>?_)
 ·refine W.seq<|W.region rfl<|agb rfl rfl rfl<|pq<|W.ret<|aY ?_
  exfalso
  omega
 ·refine W.skip<|aA<|W.seq<|W.seq<|W.region rfl<|qm rfl rfl rfl ?_
  refine agW (dM rfl rfl) rfl ?_
  refine qm rfl rfl rfl<|pq<|W.block ?_
  refine W.loop (σ:=Nat) (fun k=>k≤l.length) (fun k=>[(10,I k),(9,I l.length),(8,.slice (some ⟨b,off,none⟩) l.length cap),(0,.slice (some ⟨b,off,none⟩) l.length cap)]) (fun _=>[]) (fun k=>l.length-k) 0 (Nat.zero_le _) ⟨rfl,rfl,rfl,rfl,trivial⟩ .refl ?_
  rintro k hk
  refine W.seq<|W.region rfl ?_
  refine agW (fO rfl rfl rfl) rfl ?_
  refine pq<|W.seq ?_
  refine W.bC rfl (fun c11=>?_) (fun c11=>?_)
  ·obtain⟨p,hp,hdr⟩:=has (show k<l.length by omega)
   have hps:=hm p (List.mem_of_getElem? hp)
   obtain⟨b',off',c',E',fz',e3,hb',hx,hy,hz⟩:=hf.at hp
   cases e3
   rw[hb]at hb'
   cases hb'
   have hx':c[off+k*1+0]? =some (I p):=hz 0 (by decide)
   clear hx hz
   refine W.skip<|aA<|W.seq<|W.block<|W.seq<|W.region rfl ?_
   refine ag3 rfl ?_
   refine agX rfl ?_
   refine agb rfl rfl rfl<|pq<|W.seq<|W.region rfl<|qm rfl rfl rfl ?_
   refine cp (fun h' hE hL=>aw2 _ h' _ _ _) ?_
   refine agW (xU rfl rfl) rfl ?_
   refine pq ?_
   refine W.cond rfl (fun c16=>?_) (fun c16=>?_)
   ·refine W.seq<|W.region rfl<|agb rfl rfl rfl<|pq<|W.ret<|cZ<|aY<|aY<|cZ ?_
    refine aY ?_
    exfalso
    simp only[Bool.not_eq_true',decide_eq_false_iff_not]at*
    omega
   ·refine W.skip<|dI<|aA<|W.region rfl ?_
    refine ag1 rfl ?_
    refine qm rfl rfl rfl<|pq ?_
    exact⟨rfl,k+1,by omega,by omega,⟨rfl,rfl,rfl,rfl,trivial⟩,TW⟩
  ·skip
   refine W.exit<|bP<|bP<|gG<|aA<|W.seq<|W.seq ?_
   refine W.rE (n:=16) rfl ?_
   refine xq 0 (aN rfl rfl) rfl ?_
   first | refine xq 1 (G_ rfl rfl rfl) rfl ?_ | refine xq 1 (o_ rfl rfl rfl) rfl ?_
   refine xq 2 (iQ rfl rfl) rfl ?_
   refine xq 3 (aN rfl rfl) rfl ?_
   first | refine xq 4 (G_ rfl rfl rfl) rfl ?_ | refine xq 4 (o_ rfl rfl rfl) rfl ?_
   refine xq 5 (iQ rfl rfl) rfl ?_
   refine xq 6 (IJ rfl rfl rfl) rfl ?_
   refine xq 7 (aN rfl rfl) rfl ?_
   refine Any.ask (d':=25) (fun aCv=>?_) (fun aCv=>?_)
   ·refine ap (i:=8) rfl rfl rfl rfl rfl rfl ?_
    refine ap (i:=9) rfl rfl rfl rfl rfl rfl ?_
    refine ap (i:=10) rfl rfl rfl rfl rfl rfl ?_
    refine ap (i:=11) rfl rfl rfl rfl rfl rfl ?_
    refine ap (i:=12) rfl rfl rfl rfl rfl rfl ?_
    refine ap (i:=13) rfl rfl rfl rfl rfl rfl ?_
    refine ap (i:=14) rfl rfl rfl rfl rfl rfl ?_
    refine xq 15 (dG rfl rfl rfl) rfl ?_
    refine az ?_
    refine aA ?_
    refine W.dW ?_
    refine W.seq<|W.region rfl<|agb rfl rfl rfl<|pq<|W.ret<|aY ?_
    exfalso
    first | omega | (simp at*;omega)
   ·refine aq (i:=8) (aN rfl rfl) rfl (b_ rfl rfl rfl rfl) rfl rfl ?_
    first | refine aq (i:=9) (G_ rfl rfl rfl) rfl (b_ rfl rfl rfl rfl) rfl rfl ?_ | refine aq (i:=9) (o_ rfl rfl rfl) rfl (b_ rfl rfl rfl rfl) rfl rfl ?_
    refine aq (i:=10) (iQ rfl rfl) rfl (b_ rfl rfl rfl rfl) rfl rfl ?_
    refine aq (i:=11) (aN rfl rfl) rfl (b_ rfl rfl rfl rfl) rfl rfl ?_
    first | refine aq (i:=12) (G_ rfl rfl rfl) rfl (b_ rfl rfl rfl rfl) rfl rfl ?_ | refine aq (i:=12) (o_ rfl rfl rfl) rfl (b_ rfl rfl rfl rfl) rfl rfl ?_
    refine aq (i:=13) (iQ rfl rfl) rfl (b_ rfl rfl rfl rfl) rfl rfl ?_
    refine aq (i:=14) (IJ rfl rfl rfl) rfl (b_ rfl rfl rfl rfl) rfl rfl ?_
    refine xq 15 (iH rfl rfl rfl) rfl ?_
    refine az ?_
    refine aA ?_
    refine W.bC rfl (fun c33=>?_) (fun c33=>?_)
    ·refine W.seq<|W.region rfl<|agb rfl rfl rfl<|pq<|W.ret<|aY ?_
     exfalso
     first | omega | (simp at*;omega)
    ·refine W.skip<|aA<|W.seq<|W.region rfl<|agb rfl rfl rfl<|pq<|W.ret ?_
     exact uZ rfl
end Go.aS

/- A valid boil has no error. Conditions: none; over the given program. -/
namespace Go.aS
set_option maxRecDepth 100000
set_option maxHeartbeats 4000000
abbrev bI(b:Nat):Value:=.pointer (some ⟨b,0,none⟩)
structure ayl(ss:List Spn)(rs:List Int)(ms:Int×Int×Int)(hs:List Spn):Prop where
 s1:1≤ss.length
 s2:ss.length≤3
 sp:∀s∈ss,0≤s.lo∧s.lo≤s.hi∧s.hi≤40
 r1:rs.length=ss.length
 rp:∀r∈rs,1≤r∧r≤3
 mp:1≤ms.1∧ms.1<ms.2.1∧ms.2.1<ms.2.2∧ms.2.2≤60
 h1:1≤hs.length
 h2:hs.length≤5
 hp:∀s∈hs,0≤s.lo∧s.lo≤s.hi∧s.hi≤4
abbrev awE(vs vr vm vh:Value):Array Value:= #[vs,vr,vm,vh,.slice none 0 0]
abbrev axY(vs vr vm vh:Value):Value:=.agg (awE vs vr vm vh)
structure ayQ(h:Hp)(vs vr vm vh:Value)(ss:List Spn)(rs:List Int)(ms:Int×Int×Int)(hs:List Spn):Prop where
 sm:Sl h Spn.row vs ss
 rm:Sl h fH vr rs
 mm:Sl h fH vm [ms.1,ms.2.1,ms.2.2]
 hm:Sl h Spn.row vh hs
theorem ayQ.ext{h h':Hp}{vs vr vm vh:Value}{ss:List Spn}{rs:List Int}{ms:Int×Int×Int}{hs:List Spn}(e:Ext h h')(H:ayQ h vs vr vm vh ss rs ms hs):ayQ h' vs vr vm vh ss rs ms hs:=
 ⟨H.sm.ext e,H.rm.ext e,H.mm.ext e,H.hm.ext e⟩

theorem az2(main:Side)(h:Hp)(vs vr vm vh:Value)(ss:List Spn)(rs:List Int)(ms:Int×Int×Int)(hs:List Spn)(ok:ayl ss rs ms hs)(H:ayQ h vs vr vm vh ss rs ms hs):Pu prog main aye #[axY vs vr vm vh] h (I 0):=by
 obtain⟨a1,cap1,rfl⟩:=H.sm.dA
 obtain⟨a2,cap2,rfl⟩:=H.rm.dA
 obtain⟨a3,cap3,rfl⟩:=H.mm.dA
 obtain⟨a4,cap4,rfl⟩:=H.hm.dA
 have hs1:=ok.s1
 have hs2:=ok.s2
 have hh1:=ok.h1
 have hh2:=ok.h2
 have hr1:=ok.r1
 refine dV.aG azq rfl (by show 1≤65;decide) [(0,axY _ _ _ _)] ⟨rfl,trivial⟩ ?_
 refine W.seq<|W.region rfl ?_
 refine Ops.box (fun β1=>?_)
 refine agb rfl rfl rfl<|pq<|W.seq<|W.seq<|W.region rfl ?_
 refine agY rfl ?_
 refine agX rfl ?_
 refine cp (fun h' hE hL=>ayN _ h' ss _ 3 40 (H.sm.ext hE) hs1 (by omega) (by omega) ok.sp) ?_
 refine agb rfl rfl rfl<|pq<|W.seq<|W.region rfl<|qm rfl rfl rfl ?_
 refine agW (nG rfl rfl rfl) rfl ?_
 refine pq ?_
 refine W.bC rfl (fun c15=>?_) (fun c15=>?_)
 ·refine W.seq<|W.region rfl<|qm rfl rfl rfl<|agb rfl rfl rfl<|pq<|W.ret<|aY ?_
  exact absurd rfl ‹_›
 ·refine W.skip<|aA<|W.seq<|W.seq<|W.region rfl ?_
  refine agY rfl ?_
  refine agX rfl ?_
  refine agW (dM rfl rfl) rfl ?_
  refine agY rfl ?_
  refine agX rfl ?_
  refine agW (dM rfl rfl) rfl ?_
  refine agW (nG rfl rfl rfl) rfl ?_
  refine pq ?_
  refine W.bC rfl (fun c23=>?_) (fun c23=>?_)
  ·refine W.seq<|W.region rfl<|agb rfl rfl rfl<|pq<|W.ret<|aY ?_
   exfalso
   omega
  ·refine W.skip<|aA<|W.seq<|W.seq<|W.region rfl ?_
   refine agY rfl ?_
   refine agX rfl ?_
   refine agW (dM rfl rfl) rfl ?_
   refine qm rfl rfl rfl<|pq<|W.block ?_
   refine W.loop (σ:=Nat) (fun k=>k≤rs.length) (fun k=>[(27,I k),(26,I rs.length),(25,.slice a2 rs.length cap2),(1,bI β1)]) (fun _=>[(β1,.cells (awE (.slice a1 ss.length cap1) (.slice a2 rs.length cap2) (.slice a3 3 cap3) (.slice a4 hs.length cap4)) zf (0,0))]) (fun k=>rs.length-k) 0 (Nat.zero_le _) ⟨rfl,rfl,rfl,rfl,trivial⟩ .refl ?_
   rintro k hk
   refine W.seq<|W.region rfl ?_
   refine agW (fO rfl rfl rfl) rfl ?_
   refine pq<|W.seq ?_
   refine W.bC rfl (fun c28=>?_) (fun c28=>?_)
   ·obtain⟨p,hp,hdr⟩:=has (show k<rs.length by omega)
    have hps:=ok.rp p (List.mem_of_getElem? hp)
    obtain⟨b,off,c,E,fz,rfl,hb,hx,hy,hz⟩:=H.rm.at hp
    have hx':c[off+k*1+0]? =some (I p):=hz 0 (by decide)
    clear hx hz
    refine W.skip<|aA<|W.seq<|W.block<|W.seq<|W.region rfl ?_
    refine ag3 rfl ?_
    refine agX rfl ?_
    refine agb rfl rfl rfl<|pq<|W.seq<|W.region rfl<|qm rfl rfl rfl ?_
    refine cp (fun h' hE hL=>aw2 _ h' _ _ _) ?_
    refine agW (xU rfl rfl) rfl ?_
    refine pq ?_
    refine W.cond rfl (fun c33=>?_) (fun c33=>?_)
    ·refine W.seq<|W.region rfl<|agb rfl rfl rfl<|pq<|W.ret<|cZ<|aY<|aY<|cZ ?_
     refine aY ?_
     exfalso
     simp only[Bool.not_eq_true',decide_eq_false_iff_not]at*
     omega
    ·refine W.skip<|dI<|aA<|W.region rfl ?_
     refine ag1 rfl ?_
     refine qm rfl rfl rfl<|pq ?_
     exact⟨rfl,k+1,by omega,by omega,⟨rfl,rfl,rfl,rfl,trivial⟩,TW⟩
   ·skip
    refine W.exit<|bP<|bP<|gG<|aA<|W.seq<|W.seq<|W.region rfl ?_
    refine agY rfl ?_
    refine agX rfl ?_
    refine cp (fun h' hE hL=>azY _ h' ms.1 ms.2.1 ms.2.2 _ (H.mm.ext hE) ok.mp) ?_
    refine agb rfl rfl rfl<|pq<|W.seq<|W.region rfl<|qm rfl rfl rfl ?_
    refine agW (nG rfl rfl rfl) rfl ?_
    refine pq ?_
    refine W.bC rfl (fun Ic=>?_) (fun Ic=>?_)
    ·refine W.seq<|W.region rfl<|qm rfl rfl rfl<|agb rfl rfl rfl<|pq<|W.ret<|aY ?_
     exact absurd rfl ‹_›
    ·refine W.skip<|aA<|W.seq<|W.seq<|W.region rfl ?_
     refine agY rfl ?_
     refine agX rfl ?_
     refine cp (fun h' hE hL=>ayN _ h' hs _ 5 4 (H.hm.ext hE) hh1 (by omega) (by omega) ok.hp) ?_
     refine agb rfl rfl rfl<|pq<|W.seq<|W.region rfl<|qm rfl rfl rfl ?_
     refine agW (nG rfl rfl rfl) rfl ?_
     refine pq ?_
     refine W.bC rfl (fun c45=>?_) (fun c45=>?_)
     ·refine W.seq<|W.region rfl<|qm rfl rfl rfl<|agb rfl rfl rfl<|pq<|W.ret<|aY ?_
      exact absurd rfl ‹_›
     ·refine W.skip<|aA<|W.seq<|W.seq<|W.region rfl ?_
      refine agY rfl ?_
      refine agX rfl ?_
      refine agW (dM rfl rfl) rfl ?_
      refine agW (rC rfl rfl rfl) rfl ?_
      refine pq ?_
      refine W.bC rfl (fun c50=>?_) (fun c50=>?_)
      ·refine W.seq<|W.region rfl<|agb rfl rfl rfl<|pq<|W.ret<|aY ?_
       exact absurd ‹_› (by decide)
      ·refine W.skip<|aA<|W.seq<|W.seq<|W.region rfl ?_
       refine agY rfl ?_
       refine agX rfl ?_
       refine agW (dM rfl rfl) rfl ?_
       refine qm rfl rfl rfl<|pq<|W.block ?_
       refine W.loop (σ:=Nat) (fun k=>k=0) (fun k=>[(54,I 0),(53,I 0)]) (fun _=>[]) (fun k=>0) 0 rfl ⟨rfl,rfl,trivial⟩ TW ?_
       rintro k rfl
       refine W.seq<|W.region rfl ?_
       refine agW (fO rfl rfl rfl) rfl ?_
       refine pq<|W.seq ?_
       refine W.bC rfl (fun c55=>?_) (fun c55=>?_)
       ·exact absurd ‹_› (by decide)
       ·refine W.exit<|bP<|bP<|gG<|aA<|W.seq<|W.region rfl<|agb rfl rfl rfl<|pq ?_
        refine W.ret ?_
        exact uZ rfl
end Go.aS

/- Maps whose keys are of numbers alone. Conditions: none; over any program. -/
namespace Go.aS
def Sr(P:Program)(t:TypeId)(w K:Nat):Prop:=∀{h:Hp} {F:ah} {β:Type} {f:Unit→Sem β} {Q:β→ah→Prop} (em:Bool) (d:Nat) {xs:Array Value} {off:Nat} {us:List Int},us.length=w→Part xs off (us.map nI)→
 tr P h ((part t xs off).bind fun x=>(Instr.checkKey em (d+K) t x).bind f) F Q=tr P h (f ()) F Q
def CkV(P:Program)(t:TypeId)(w K:Nat):Prop:=∀{h:Hp} {F:ah} {β:Type} {f:Unit→Sem β} {Q:β→ah→Prop} (em:Bool) (d:Nat) {us:List Int},us.length=w→
 tr P h ((Instr.checkKey em (d+K) t (.agg (us.map nI).toArray)).bind f) F Q=tr P h (f ()) F Q
theorem Sr.int{P:Program}{t:TypeId}[TD P t (.int .i64)][SC P t]:Sr P t 1 1:=by
 intro hp F β f Q em d xs off us h1 h3
 obtain⟨a,rfl⟩:=List.length_eq_one_iff.1 h1
 have e1:xs[off]? =some (nI a):=h3.get (j:=0) (by simp)
 rw[lT e1]
 simp only[Instr.checkKey,bind_eq,au,bind_assoc,bind_pure,aC]
theorem CkV.at{P:Program}{t w K:Nat}(H:CkV P t w K)[AG P t w]:Sr P t w K:=by
 intro hp F β f Q em d xs off us h1 h3
 have e1:=h3.extract
 rw[List.length_map,h1]at e1
 rw[ru,e1]
 exact H em d h1
theorem CkV.le{P:Program}{t w K K':Nat}(H:CkV P t w K)(h:K≤K'):CkV P t w K':=by
 intro hp F β f Q em d us h1
 have:= @H hp F β f Q em (d+(K'-K)) us h1
 rwa[show d+(K'-K)+K=d+K' by omega]at this

def Qi(P:Program)(K:Nat):List Field→List Nat→Nat→Prop
 | [],[],_=>True
 | f::fs,w::ws,o=>f.name≠ "_" ∧f.offset=o∧Sr P f.type w K∧Qi P K fs ws (o+w)
 | _,_,_=>False
theorem Qi.nil{P:Program}{K o:Nat}:Qi P K [] [] o:=trivial
theorem Qi.cons{P:Program}{K o w:Nat}{f:Field}{fs:List Field}{ws:List Nat}(hn:f.name≠ "_")(ho:f.offset=o)(he:Sr P f.type w K)(hl:Qi P K fs ws (o+w)):Qi P K (f::fs) (w::ws) o:=⟨hn,ho,he,hl⟩
theorem Mc{P:Program}{K:Nat}{xs:Array Value}{hp:Hp}{F:ah}{β:Type}{Q:β→ah→Prop}(em:Bool)(d:Nat){g:PUnit→Sem β}:∀(fs:List Field) (ws:List Nat) (o:Nat) (us:List Int),Qi P K fs ws o→us.length=ws.sum→Part xs o (us.map nI)→
  tr P hp ((
       forIn fs PUnit.unit fun f __s=>
     if f.name≠ "_" then
      (
       part f.type xs f.offset).bind fun __do_lift=>
       (Instr.checkKey em (d+K) f.type __do_lift).bind fun r=>Sem.pure (ForInStep.yield PUnit.unit)
     else Sem.pure (ForInStep.yield PUnit.unit)).bind g) F Q=tr P hp (g PUnit.unit) F Q
 | [],[],o,us,_,h1,h3=>by
  simp only[List.forIn_nil,au,bind_pure]
 | f::fs,w::ws,o,us,hl,h1,h3=>by
  obtain⟨hn,ho,he,hl⟩:=hl
  simp only[List.sum_cons]at h1
  obtain⟨p1,p2⟩:=h3.two (w:=w) (by omega)
  have e1:(us.take w).length=w:=by simp;omega
  subst ho
  simp only[List.forIn_cons,bind_eq,if_pos hn,bind_assoc]
  rw[he em d e1 p1]
  simp only[bind_pure]
  exact Mc em d fs ws _ (us.drop w) hl (by simp;omega) p2
 | [],_::_,_,_,hl,_,_=>hl.elim
 | _::_,[],_,_,hl,_,_=>hl.elim
theorem CkV.struct{P:Program}{t:TypeId}{fs:Array Field}{ws:List Nat}{K:Nat}[TD P t (.struct fs)](hl:Qi P K fs.toList ws 0):CkV P t ws.sum (K+1):=by
 intro hp F β f Q em d us h1
 show tr P hp ((Instr.checkKey em (d+K+1) t _).bind f) F Q=_
 simp only[Instr.checkKey,bind_eq,au,bind_assoc,bind_pure,aC]
 rw[←Array.forIn_toList]
 exact Mc em d fs.toList ws 0 us hl h1 (Part.all _)
theorem Qj{P:Program}{E w K:Nat}{s:Nat}{z:Value}{zc:Array Value}[TI P E w s z zc]{xs:Array Value}{hp:Hp}{F:ah}{β:Type}{Q:β→ah→Prop}(he:Sr P E w K)(em:Bool)(d:Nat){g:PUnit→Sem β}:∀(n i:Nat) (us:List Int),us.length=n*w→Part xs (i*w) (us.map nI)→
  tr P hp ((
       forIn (List.range' i n) PUnit.unit fun i __s=>
     (
      sizeOf E).bind fun __do_lift=>
      (
       part E xs (i*__do_lift)).bind fun __do_lift=>
       (Instr.checkKey em (d+K) E __do_lift).bind fun r=>Sem.pure (ForInStep.yield PUnit.unit)).bind g) F Q=tr P hp (g PUnit.unit) F Q
 | 0,i,us,h1,h3=>by
  simp only[List.range'_zero,List.forIn_nil,au,bind_pure]
 | n+1,i,us,h1,h3=>by
  rw[Nat.succ_mul]at h1
  obtain⟨p1,p2⟩:=h3.two (w:=w) (by omega)
  have e1:(us.take w).length=w:=by simp;omega
  have e3:i*w+w=(i+1)*w:=by rw[Nat.succ_mul]
  rw[e3]at p2
  simp only[List.range'_succ,List.forIn_cons,bind_eq,bind_assoc,dH]
  rw[he em d e1 p1]
  simp only[bind_pure]
  exact Qj he em d n (i+1) (us.drop w) (by simp;omega) p2
theorem CkV.array{P:Program}{t n E w K:Nat}{s:Nat}{z:Value}{zc:Array Value}[TD P t (.array n E)][TI P E w s z zc](he:Sr P E w K):CkV P t (n*w) (K+1):=by
 intro hp F β f Q em d us h1
 show tr P hp ((Instr.checkKey em (d+K+1) t _).bind f) F Q=_
 simp only[Instr.checkKey,bind_eq,au,bind_assoc,bind_pure,aC]
 rw[Std.Legacy.Range.forIn_eq_forIn_range']
 have e:(Std.Legacy.Range.size [:n])=n:=by simp[Std.Legacy.Range.size]
 rw[e]
 exact Qj he em d n 0 us h1 (by rw[Nat.zero_mul];exact Part.all _)

class KV(P:Program)(t:TypeId)(w:outParam Nat):Prop where
 eq:EV P t w
 ck:CkV P t w 9
 ag:∃d,P.underlying t=some d∧((∃fs,d= .struct fs)∨∃n e,d= .array n e)

section
variable{P:Program}{h:Hp}{F:ah}{β:Type}{Q:β→ah→Prop}{t w:Nat}
theorem aAc[k:KV P t w]{f:Unit→Sem β}{em:Bool}{us:List Int}(h1:us.length=w):tr P h ((Instr.checkKey em 10000 t (.agg (us.map nI).toArray)).bind f) F Q=tr P h (f ()) F Q:=by
 have e:(10000:Nat)=9991+9:=rfl
 rw[e]
 exact k.ck em 9991 h1

end
section rules
variable{x:Cx}{ρ:Env}{F:ah}{S:ah→Prop}{o:Oper}{R:Value→ah→Prop}
theorem Md{t:Nat}(ho:o.op= .makeMap t none)(H:∀β,x.h β=none→(∀o,(β,o)∉F)→R (.map (some β)) ((β,.map #[] 0)::F)):Ef x ρ o F R:=
 Ef.xW fun e he h' hE=>by
  simp only[execOp,ho,Instr.makeMap,Option.map_none,bind_eq,au,bind_assoc,bind_pure]
  exact⟨(fun h=>by cases h),fun r h5 h6=>⟨_,.inl rfl,H r (hE.none h5) h6⟩⟩
end rules
end Go.aS

/- Maps from arrays of numbers to anything: keys that are new are put; a loop over all, in any order. Conditions: none; over any program. -/
namespace Go.aS
def abl(k:List Int):Value:=.agg (k.map nI).toArray
def awQ(m:List (List Int×Value)):List MapEntry:=m.zipIdx.map fun p=>{key:=abl p.1.1,val:=p.1.2,born:=p.2}
abbrev ax6(m:List (List Int×Value)):Obj:=.map (awQ m).toArray m.length
theorem aAR{m:List (List Int×Value)}:(awQ m).length=m.length:=by simp[awQ]
theorem aAF{m:List (List Int×Value)}{k:List Int}{v:Value}:awQ (m++[(k,v)])=awQ m++[{key:=abl k,val:=v,born:=m.length}]:=by
 simp[awQ,List.zipIdx_append]
theorem aAa{m:List (List Int×Value)}{e:MapEntry}(h:e∈awQ m):∃p,m[e.born]? =some p∧e.key=abl p.1∧e.val=p.2:=by
 obtain⟨⟨p,i⟩,h1,rfl⟩:=List.mem_map.1 h
 have:=List.mem_zipIdx_iff_getElem?.1 h1
 exact⟨p,this,rfl,rfl⟩
theorem aAd{m:List (List Int×Value)}{i:Nat}{p:List Int×Value}(h:m[i]? =some p):{key:=abl p.1,val:=p.2,born:=i:MapEntry}∈awQ m:=
 List.mem_map.2 ⟨(p,i),List.mem_zipIdx_iff_getElem?.2 h,rfl⟩
section
variable{P:Program}{h:Hp}{F:ah}{β:Type}{Q:β→ah→Prop}{t w:Nat}
theorem azn[k:KV P t w]{f:Option (Nat×Value)→Sem β}{a:List Int}(h1:a.length=w):∀{m:List (List Int×Value)} {l:List MapEntry} {i:Nat},(∀b∈m,b.1.length=w)→l.map (·.key)=m.map (fun p=>abl p.1)→a∉m.map (·.1)→
  tr P h ((Instr.findAsking t (abl a) l i).bind f) F Q=tr P h (f none) F Q
 | [],l,i,hw,hm,ha=>by
  have:l=[]:=by simpa using hm
  subst this
  simp only[Instr.findAsking,au,bind_pure]
 | b::m,[],i,hw,hm,ha=>by cases hm
 | b::m,e::l,i,hw,hm,ha=>by
  simp only[List.map_cons,List.cons.injEq]at hm
  obtain⟨hk,hm⟩:=hm
  have:=k.eq
  have hab:a≠b.1:=fun h=>ha (by rw[h];simp)
  have hk':e.key= .agg (b.1.map nI).toArray:=hk
  simp only[Instr.findAsking,bind_eq,au,bind_assoc,hk',abl,X7 h1 (hw b (List.mem_cons_self ..)),hab,decide_false,Bool.false_eq_true,if_false]
  exact azn h1 (fun c hc=>hw c (List.mem_cons_of_mem _ hc)) hm fun h=>ha (by simp[h])
theorem aAe[k:KV P t w]{f:Option (Nat×Value)→Sem β}{a:List Int}(h1:a.length=w){m:List (List Int×Value)}{l:List MapEntry}(hw:∀b∈m,b.1.length=w)(hm:l.map (·.key)=m.map (fun p=>abl p.1))(ha:a∉m.map (·.1)):
  tr P h ((Instr.findKey t (abl a) l).bind f) F Q=tr P h (f none) F Q:=by
 obtain⟨d,hd,hda⟩:=k.ag
 have:TD P t d:=⟨hd⟩
 simp only[Instr.findKey,bind_eq,au,bind_assoc,aC]
 cases l with
 | nil=>simp only[Instr.findNow,bind_pure]
 | cons e l=>
  have hn:Instr.findNow d (abl a) (e::l) 0=none:=by
   have:Instr.sameNow d (abl a) e.key=none:=by
    rcases hda with⟨fs,rfl⟩ | ⟨n,el,rfl⟩ <;>rfl
   simp only[Instr.findNow,this]
  simp only[hn]
  exact azn h1 hw hm ha
end
section rules
variable{x:Cx}{ρ:Env}{F:ah}{S:ah→Prop}{o:Oper}{R:Value→ah→Prop}
theorem aAS{t kt vt w:Nat}{y k v:Operand}{β:Nat}{m:List (List Int×Value)}{a:List Int}{u:Value}{U:Obj→ah}(ho:o.op= .mapUpdate t y k v)[TD x.P t (.map kt vt)][KV x.P kt w](hy:ev ρ y=some (.map (some β)))(hk:ev ρ k=some (abl a))(hv:ev ρ v=some u)(h1:a.length=w)(hw:∀b∈m,b.1.length=w)(ha:a∉m.map (·.1))(hl:At β (ax6 m) F U)
  (H:R undef (U (ax6 (m++[(a,u)])))):Ef x ρ o F R:=
 Ef.xW fun e he h' hE=>by
  obtain⟨F1,F2,e1,e2⟩:=hl.split
  have hm:(awQ m).map (·.key)=m.map (fun p=>abl p.1):=by
   rw[awQ,List.map_map]
   have:∀(l:List (List Int×Value)) (n:Nat),(l.zipIdx n).map ((fun e:MapEntry=>e.key)∘fun p:(List Int×Value)×Nat=>{key:=abl p.1.1,val:=p.1.2,born:=p.2:MapEntry})=l.map fun p=>abl p.1:=fun l=>by
    induction l with
    | nil=>intro n;rfl
    | cons a l ih=>intro n;rw[List.zipIdx_cons,List.map_cons,ih];rfl
   exact this m 0
  simp only[execOp,ho,he y _ hy,he k _ hk,he v _ hv,Instr.mapUpdate,bind_eq,au,bind_assoc,bind_pure,aC]
  refine⟨ax6 m,.inr (by rw[e1];simp),(fun _ _ _=>by simp),rfl,?_⟩
  simp only[au,bind_pure,bind_assoc]
  have e0:abl a= .agg (a.map nI).toArray:=rfl
  rw[e0,aAc h1,←e0,aAe h1 hw hm ha]
  refine⟨ax6 m,F1,F2,e1,(fun _ _ _=>by simp),rfl,?_⟩
  rw[e2]at H
  refine⟨_,.inr ⟨rfl,rfl⟩,?_⟩
  have e3:(awQ m).toArray.push {key:=abl a,val:=u,born:=m.length}=(awQ (m++[(a,u)])).toArray:=by rw[aAF];simp
  rw[e3,show m.length+1=(m++[(a,u)]).length by simp]
  exact H
theorem aAr{t kt vt:Nat}{y:Operand}{β:Nat}{m:List (List Int×Value)}(ho:o.op= .range t y)[TD x.P t (.map kt vt)](hy:ev ρ y=some (.map (some β)))(hl:(β,ax6 m)∈F)
  (H:∀r,R (.pointer (some ⟨r,0,none⟩)) ((r,.mapIter (some β) m.length #[] m.length)::F)):Ef x ρ o F R:=
 Ef.xW fun e he h' hE=>by
  simp only[execOp,ho,he y _ hy,Instr.range,bind_eq,au,bind_assoc,bind_pure,aC]
  refine⟨ax6 m,.inr hl,(fun _ _ _=>by simp),rfl,?_⟩
  simp only[au,bind_pure,bind_assoc]
  exact wI fun r h1 h2=>⟨_,.inl rfl,H r⟩
theorem aBy{y:Operand}{β r:Nat}{m:List (List Int×Value)}{sn:List Nat}{U:Obj→ah}(ho:o.op= .next y false)(hy:ev ρ y=some (.pointer (some ⟨r,0,none⟩)))(hm:(β,ax6 m)∈F)(hl:At r (.mapIter (some β) m.length sn.toArray m.length) F U)
  (H:∀i p,m[i]? =some p→i∉sn→R (.tuple #[.bool true,abl p.1,p.2]) (U (.mapIter (some β) m.length (sn++[i]).toArray m.length)))
  (H0:(∀i,i<m.length→i∈sn)→R (.tuple #[.bool false]) F):Ef x ρ o F R:=
 Ef.xW fun e he h' hE=>by
  obtain⟨F1,F2,e1,e2⟩:=hl.split
  simp only[execOp,ho,he y _ hy,Instr.next,bind_eq,au,bind_assoc,bind_pure]
  refine⟨_,.inr (by rw[e1];exact List.mem_append_right _ (.head _)),(fun _ _ _=>by simp),rfl,?_⟩
  refine⟨ax6 m,.inr hm,(fun _ _ _=>by simp),rfl,?_⟩
  have hb:∀e∈awQ m,e.born<m.length:=fun e he=>by
   obtain⟨p,hp,-⟩:=aAa he
   exact(List.getElem?_eq_some_iff.1 hp).1
  have c0:(!sn.toArray.isEmpty&& !(awQ m).toArray.isEmpty&&(awQ m).toArray.all fun x=>decide (x.born≥m.length))=false:=by
   cases hq:awQ m with
   | nil=>simp
   | cons a l=>
    have:=hb a (by rw[hq];exact .head _)
    simp;omega
  simp only[bind_pure,c0,Bool.false_eq_true,if_false]
  have hold:(((awQ m).toArray.filter fun e=> !sn.toArray.contains e.born).filter fun e=>decide (e.born<m.length))=((awQ m).filter fun e=> !sn.contains e.born).toArray:=by
   simp only[List.filter_toArray,List.contains_toArray]
   congr 1
   rw[List.filter_filter]
   exact List.filter_congr fun e he=>by simp[hb e he]
  have hnew:(((awQ m).toArray.filter fun e=> !sn.toArray.contains e.born).filter fun e=>decide (e.born≥m.length))= #[]:=by
   simp only[List.filter_toArray,List.contains_toArray]
   have:(((awQ m).filter fun e=> !sn.contains e.born).filter fun e=>decide (e.born≥m.length))=[]:=by
    rw[List.filter_eq_nil_iff]
    intro e he
    have:=hb e (List.mem_filter.1 he).1
    simp;omega
   rw[this]
  simp only[hold,hnew,Array.append_empty]
  have key:∀e∈(awQ m).filter (fun e=> !sn.contains e.born),R (.tuple #[.bool true,e.key,e.val]) (U (.mapIter (some β) m.length (sn.toArray.push e.born) m.length)):=fun e he=>by
   obtain⟨he1,he2⟩:=List.mem_filter.1 he
   obtain⟨p,hp,hk,hv⟩:=aAa he1
   have:=H e.born p hp (by simpa using he2)
   rw[hk,hv]
   simpa using this
  cases hL:(awQ m).filter (fun e=> !sn.contains e.born)with
  | nil=>
   have h0:∀i,i<m.length→i∈sn:=fun i hi=>by
    rw[List.filter_eq_nil_iff]at hL
    have:=hL _ (aAd (List.getElem?_eq_getElem hi))
    simpa using this
   simp
   exact⟨_,.inl rfl,H0 h0⟩
  | cons a l=>
   rw[hL]at key
   have e5:((if(a::l).toArray.isEmpty=true then #[none]else #[])++Array.map some (a::l).toArray)=((a::l).map some).toArray:=by simp
   simp only[e5]
   have fin:∀n,n<(a::l).length→tr x.P h' (((match((a::l).map some).toArray[n]? with
     | some (some e)=>(setObj r (Obj.mapIter (some β) m.length (sn.toArray.push e.born) m.length)).bind fun __r=>Sem.pure (Value.tuple #[Value.bool true,e.key,e.val])
     | some none=>Sem.pure (Value.tuple #[Value.bool false])
     | none=>stuck "Next: no such candidate"):Sem Value).bind fun v=>Sem.pure (Next.value v)) F fun nx F'=>∃v,(nx=Next.value v∨nx=Next.skip∧v=undef)∧R v F':=fun n hn=>by
    obtain⟨e9,he9,-⟩:=has hn
    have hg:((a::l).map some).toArray[n]? =some (some e9):=by
     rw[List.getElem?_toArray,List.getElem?_map,he9];rfl
    have hR:=key e9 (List.mem_of_getElem? he9)
    rw[e2]at hR
    simp only[hg,bind_assoc,bind_pure]
    exact⟨_,F1,F2,e1,(fun _ _ _=>by simp),rfl,_,.inl rfl,hR⟩
   have hsz:((a::l).map some).toArray.size=(a::l).length:=by simp
   show(if Question.forced (.mapNext ((a::l).map some).toArray.size)=true then _ else∀n,_→_)
   rw[hsz]
   split
   ·exact fin 0 (by simp)
   ·rintro n ⟨t,rfl⟩
    exact fin _ (Nat.mod_lt _ (by simp))
theorem aBf{y:Operand}{β r i:Nat}{m:List (List Int×Value)}{sn:List Nat}{p:List Int×Value}(ho:o.op= .entry y)(hy:ev ρ y=some (.pointer (some ⟨r,0,none⟩)))(hm:(β,ax6 m)∈F)(hl:(r,.mapIter (some β) m.length (sn++[i]).toArray m.length)∈F)(hp:m[i]? =some p)
  (H:R (.tuple #[abl p.1,p.2]) F):Ef x ρ o F R:=
 Ef.xW fun e he h' hE=>by
  simp only[execOp,ho,he y _ hy,Instr.entry,bind_eq,au,bind_assoc,bind_pure]
  refine⟨_,.inr hl,(fun _ _ _=>by simp),rfl,?_⟩
  have hb:(sn++[i]).toArray.back? =some i:=by simp
  simp only[hb,bind_pure]
  refine⟨ax6 m,.inr hm,(fun _ _ _=>by simp),rfl,?_⟩
  have hf:(awQ m).find? (fun e=>e.born==i)=some {key:=abl p.1,val:=p.2,born:=i}:=by
   cases hq:(awQ m).find? (fun e=>e.born==i)with
   | none=>exact absurd (List.find?_eq_none.1 hq _ (aAd hp)) (by simp)
   | some e=>
    have h1:=List.find?_some hq
    have h2:=List.mem_of_find?_eq_some hq
    have h1':e.born=i:=by simpa using h1
    obtain⟨q,h3,h4,h5⟩:=aAa h2
    rw[h1',hp]at h3
    cases h3
    obtain⟨a,b,c⟩:=e
    simp only at h1' h4 h5
    rw[h1',h4,h5]
  have hf':(awQ m).toArray.find? (fun e=>e.born==i)=some {key:=abl p.1,val:=p.2,born:=i}:=by
   simpa using hf
  simp only[bne_self_eq_false,Bool.false_eq_true,if_false,hf',bind_pure]
  exact⟨_,.inl rfl,H⟩
end rules
end Go.aS

/- append where the slice that was appended to goes on being used. Conditions: none; over any program. -/
namespace Go.aS
section
variable{α:Type}{row:α→List Value}{w:Nat}[rw':Rw row w]
def Back(E:TypeId)(row:α→List Value)[Rw row w](v:Value)(l:List α)(v':Value)(l2:List α)(A0:ah):Prop:=∀A2,Os E row v' l2 A2→∃A3,Os E row v l A3∧Sb A3 (A2++A0)
theorem Os.aB3{E:TypeId}{β cap:Nat}{l l':List α}{A:ah}(H:Os E row (.slice (some ⟨β,0,none⟩) (l.length+l'.length) cap) (l++l') A):Os E row (.slice (some ⟨β,0,none⟩) l.length cap) l A:=by
 rcases H with⟨_,he,_⟩ | ⟨b,c,cp,J,he,rfl,h1,h2,h3,h4⟩
 ·cases he
 ·rw[List.length_append]at he h2
  cases he
  refine .inr ⟨_,c,_,J,rfl,rfl,h1,by omega,?_,h4⟩
  obtain⟨pre,post,e1,e2⟩:=h3
  exact⟨pre,flat row l'++post,by rw[e1,zk];simp,e2⟩

theorem aAs{P:Program}{h:Hp}{t t' ty E E' by':Nat}{z:Value}{zc:Array Value}[TD P t (.slice E)][TD P t' (.slice E')][TI P E w by' z zc]{v x:Value}{l l':List α}{A:ah}{Q:Value→ah→Prop}(hzc:zc.size=w)
  (hs:Os E row v l A) (hx:Sl h row x l') (hb:(2*(l.length+l'.length)+768)*by'≤2 ^ 48) (hby:0<by')
  (K:∀v' A1 A0,Os E row v' (l++l') A1→Back E row v l v' (l++l') A0→Q v' (A1++A0)):tr P h (Builtin.append_ #[t,t'] ty #[v,x]) A Q:=by
 obtain⟨j,hj,hj1,hj2,hj3,hj4⟩:=TI.out (inferInstance:TI P E w by' z zc)
 have hm:((l.length+l'.length:Nat):Int)≤IntKind.i64.max:=by
  have h1:(2*(l.length+l'.length)+768)*1≤(2*(l.length+l'.length)+768)*by':=Nat.mul_le_mul_left _ hby
  have h2:IntKind.i64.max=9223372036854775807:=rfl
  omega
 obtain⟨ax,Q9,hxe,_⟩:=id hx
 obtain⟨a,cap,hv⟩:=hs.dA
 subst hv hxe
 have e1:(#[t,t']:Array TypeId)[0]? =some t:=rfl
 have e2:(#[t,t']:Array TypeId)[1]? =some t':=rfl
 have e3:(#[Value.slice a l.length cap,Value.slice ax l'.length Q9]:Array Value)[0]? =some (.slice a l.length cap):=rfl
 have e4:(#[Value.slice a l.length cap,Value.slice ax l'.length Q9]:Array Value)[1]? =some (.slice ax l'.length Q9):=rfl
 simp only[Builtin.append_,e1,e2,e3,e4,bind_eq,au,bind_assoc,bind_pure,aC,dH,Bool.false_eq_true,if_false,Builtin.lenOf,Bool.not_false,if_true]
 by_cases hc:l.length+l'.length≤cap
 ·rw[if_pos hc]
  refine bJ (DU hx ?_)
  rcases hs with⟨rfl,he,hsh⟩ | ⟨β,c,cap',J,he,rfl,h1,h2,h3,hsh⟩
  ·cases he
   have:l'=[]:=List.length_eq_zero_iff.1 (by simp at hc;simp[hc])
   subst this
   have:=K _ A [] (.nil hsh) (fun A2 h2=>⟨A2,.nil h2.shut,by simp[Sb.refl]⟩)
   rw[List.append_nil]at this
   exact this
  ·cases he
   have hl3:=jT (row:=row) l
   have WE:=jT (row:=row) l'
   have hle:l.length*w+l'.length*w≤c.size:=by rw[h1,←Nat.add_mul];exact Nat.mul_le_mul_right _ hc
   have ea:(⟨β,0,none⟩:Addr).add (l.length*w)=⟨β,l.length*w,none⟩:=by rw[jE rfl];simp
   simp only[ea]
   refine bJ (kV (flat row l') 0 c (Lu l') At.head (by rw[WE];simp;omega) ?_)
   have:=K (.slice (some ⟨β,0,none⟩) (l.length+l'.length) cap) ((β,.cells (jv c (l.length*w) (flat row l')) E (0,0))::J) [] (.inr ⟨β,jv c (l.length*w) (flat row l'),cap,J,by rw[List.length_append],by simp,by rw[y9,h1],by rw[List.length_append];exact hc,by
    rw[zk,←hl3]
    exact Gz _ _ h3 (by rw[hl3,WE];exact hle),hsh⟩) (fun A2 h2=>⟨A2,h2.aB3,by simp[Sb.refl]⟩)
   rw[List.append_nil]at this
   exact this
 ·rw[if_neg hc]
  have c1:¬(((l.length+l'.length:Nat):Int)>IntKind.i64.max∧(false=true∨(by':Nat)=0)):=by omega
  have c2:¬Builtin.nextslicecap (l.length+l'.length) cap*by'>2 ^ 48:=by
   have:=IV (show cap<l.length+l'.length by omega)
   have:=Nat.mul_le_mul_right by' this
   omega
  simp only[dJ hj,hj2]
  have c1':¬(((l.length+l'.length:Nat):Int)>IntKind.i64.max):=by omega
  simp only[c1',false_and,if_false]
  rw[dJ hj,hj2,if_neg c2]
  intro n ⟨tp,hn⟩
  have hn':l.length+l'.length≤n:=by rw[hn];simp only[Question.cut];omega
  clear hn c2
  show tr P h (Sem.bind (typeInfo E) _) A Q
  rw[dJ hj,hj2]
  
  have room:∀{β:Type} {f:Unit→Sem β} {Q':β→ah→Prop},tr P h (f ()) A Q'→tr P h ((askRoom (n*by')).bind f) A Q':=by
   intro β f Q' H
   unfold askRoom
   split
   ·exact⟨rfl,H⟩
   ·exact H
  refine room (bJ (UO hs (bJ (DU hx ?_))))
  simp only[fG,hj4,newRow,bind_eq,au,bind_assoc,bind_pure]
  refine wI fun r _ _=>?_
  refine K _ [_] A (.inr ⟨r,_,n,[],by rw[List.length_append],rfl,?_,by rw[List.length_append];exact hn',?_,.nil⟩) (fun A2 h2=>⟨A,hs,.left .refl h2.shut⟩)
  ·simp only[Array.size_append,List.size_toArray,jT,zn,hzc,←Nat.add_mul]
   congr 1;omega
  ·refine⟨[],(Builtin.zeroCells zc (n- (l.length+l'.length))).toList,?_,rfl⟩
   rw[zk]
   simp only[Array.toList_append,List.nil_append,List.append_assoc]
end
section rules
variable{x:Cx}{ρ:Env}{F:ah}{o:Oper}{R:Value→ah→Prop}{α:Type}{row:α→List Value}{w:Nat}[rw':Rw row w]
theorem az3{t t' E E' by':Nat}{z:Value}{zc:Array Value}{y yx:Operand}{v xv:Value}{l l':List α}{A:ah}{U:ah→ah}(ho:o.op= .call ⟨.builtin .append, #[y,yx], #[t,t']⟩)[TD x.P t (.slice E)][TD x.P t' (.slice E')][TI x.P E w by' z zc]
  (hy:ev ρ y=some v) (hx:ev ρ yx=some xv) (hs:Os E row v l A) (hg:Seg A F U) (hsrc:∀h',Ext x.h h'→fF (U []) h'→Sl h' row xv l') (hb:(2*(l.length+l'.length)+768)*by'≤2 ^ 48) (hby:0<by') (hzc:zc.size=w)
  (K:∀v' A1 A0,Os E row v' (l++l') A1→Back E row v l v' (l++l') A0→R v' (U (A1++A0))):Ef x ρ o F R:=fun e he=>
 ⟨A,U [],hg.perm.1,fun h' e1 e2=>by
  simp only[execOp,ho,resolve,invoke,builtin,List.map_toArray,List.map_cons,List.map_nil,he y _ hy,he yx _ hx,bind_eq,au,bind_pure]
  exact bJ (aAs hzc hs (hsrc h' e1 e2) hb hby fun v' A1 A0 H H'=>⟨U (A1++A0),hg.perm.2 (A1++A0),K v' A1 A0 H H'⟩)⟩
end rules
theorem aAG{α:Type}{row:α→List Value}{w:Nat}[rw':Rw row w]{P:Program}{h:Hp}{E:TypeId}{A F:ah}{v:Value}{l:List α}{Q:Array Value→ah→Prop}(H:Os E row v l A)(hm:∀p∈A,p∈F)(K:Q (flat row l).toArray F):tr P h (Builtin.firstCells w l.length v) F Q:=by
 rcases H with⟨rfl,rfl,_⟩ | ⟨β,c,cap,J,rfl,rfl,h1,h2,h3,_⟩
 ·exact K
 ·have h6:=h3.len
  have h7:=h3.extract
  rw[jT]at h6 h7
  simp only[Builtin.firstCells,loadCells]
  refine gX (.inr (hm _ (List.mem_cons_self ..))) _ 0 #[] (by omega) ?_
  simp only[Nat.add_zero,Array.empty_append]
  rw[h7];exact K
theorem aBg{x:Cx}{ρ:Env}{F:ah}{o:Oper}{R:Value→ah→Prop}{α:Type}{row:α→List Value}{w:Nat}[Rw row w]{t t' E E' by':Nat}{z:Value}{zc:Array Value}{y yx:Operand}{xv:Value}{b off n cap:Nat}{c:Array Value}{C:TypeId}{l:List α}{A:ah}{U:Obj→ah}(ho:o.op= .call ⟨.builtin .copy, #[y,yx], #[t,t']⟩)[TD x.P t (.slice E)][TI x.P E w by' z zc]
  (hy:ev ρ y=some (.slice (some ⟨b,off,none⟩) n cap)) (hx:ev ρ yx=some xv) (hs:Os E' row xv l A) (hm:∀p∈A,p∈F) (hle:l.length≤n) (hl:At b (.cells c C (0,0)) F U) (hc:off+l.length*w≤c.size)
  (H:R (.int .i64 l.length) (U (.cells (jv c off (flat row l)) C (0,0)))):Ef x ρ o F R:=
 Ef.xW fun e he h' hE=>by
  obtain⟨a,cp,rfl⟩:=hs.dA
  have hmin:Nat.min l.length n=l.length:=Nat.min_eq_left hle
  simp only[execOp,ho,resolve,invoke,builtin,Builtin.copy_,List.map_toArray,List.map_cons,List.map_nil,he y _ hy,he yx _ hx,List.getElem?_toArray,List.getElem?_cons_zero,List.getElem?_cons_succ,bind_eq,au,bind_assoc,bind_pure,aC,Builtin.lenOf,dH,hmin]
  refine bJ (aAG hs hm ?_)
  refine bJ (kV (flat row l) 0 c (Lu l) hl (by rw[jT];omega) ?_)
  exact⟨_,.inl rfl,by simpa[goInt]using H⟩
end Go.aS

/- Groups of truths: sums of heats, thicknesses, bounds. Conditions: none; over the given program. -/
namespace Go.aS
set_option maxRecDepth 100000
set_option maxHeartbeats 4000000
theorem aAt(main:Side)(h:Hp)(s:Spn)(hs: -1000≤s.lo∧s.lo≤s.hi∧s.hi≤1000):Pu prog main axX #[s.val] h (I (s.hi-s.lo+1)):=by
 refine dV.aG ay8 rfl (by show 1≤10;decide) [(0,s.val)] ⟨rfl,trivial⟩ ?_
 refine W.seq<|W.region rfl ?_
 refine Ops.box (fun β1=>?_)
 refine agb rfl rfl rfl<|pq<|W.seq<|W.region rfl ?_
 refine agY rfl ?_
 refine agX rfl ?_
 refine agY rfl ?_
 refine agX rfl ?_
 refine ag5 rfl ?_
 refine ag1 rfl ?_
 refine agW (y8 rfl rfl rfl) rfl ?_
 refine agb rfl rfl rfl<|pq<|W.ret ?_
 refine uZ ?_
 show I _=I _;congr 1;omega

theorem az4{l:List Int}{j:Nat}{a:Int}(h:l[j]? =some a):Ju (l.take (j+1))=Ju (l.take j)+a:=by
 rw[List.take_add_one,h,aAQ]
 simp[Ju]
theorem ax1{l:List Int}(h:∀a∈l,0≤a∧a≤4):0≤Ju l∧Ju l≤4*l.length:=by
 induction l with
 | nil=>simp[Ju]
 | cons a l ih=>
  have h1:=h a (List.mem_cons_self ..)
  have h2:=ih fun x hx=>h x (List.mem_cons_of_mem _ hx)
  rw[aw1,List.length_cons]
  omega

theorem aBz(main:Side)(h:Hp)(k:List Int)(t:Nat)(hk:k.length=5)(ht:t≤5)(hb:∀a∈k,0≤a∧a≤4):Pu prog main aw5 #[abl k,I t] h (I (Ju (k.take t))):=by
 have hsz:(k.map nI).toArray.size=5:=by simp[hk]
 refine dV.aG ayt rfl (by show 2≤18;decide) [(0,abl k),(1,I t)] ⟨rfl,rfl,trivial⟩ ?_
 refine W.seq<|W.region rfl ?_
 refine Ops.box (fun yR=>?_)
 refine agb rfl rfl rfl<|pq<|W.seq<|W.region rfl<|agb rfl rfl rfl<|pq<|W.seq<|W.seq ?_
 refine W.region rfl<|qm rfl rfl rfl<|qm rfl rfl rfl<|pq<|W.block ?_
 refine W.loop (σ:=Nat) (fun j=>j≤t) (fun j=>[(8,I j),(7,I t),(2,bI yR),(5,I (Ju (k.take j)))]) (fun _=>[(yR,.cells (k.map nI).toArray atI (0,0))]) (fun j=>t-j) 0 (Nat.zero_le _) ⟨rfl,rfl,rfl,rfl,trivial⟩ .refl ?_
 rintro j hj
 refine W.seq<|W.region rfl ?_
 refine agW (fO rfl rfl rfl) rfl ?_
 refine pq<|W.seq ?_
 refine W.bC rfl (fun c9=>?_) (fun c9=>?_)
 ·obtain⟨a,ha,-⟩:=has (show j<k.length by omega)
  have hb1:=hb a (List.mem_of_getElem? ha)
  have hb2:=ax1 (l:=k.take j) fun x hx=>hb x (List.mem_of_mem_take hx)
  have hlen:(k.take j).length≤5:=by rw[List.length_take];omega
  have hx:(k.map nI).toArray[0+j*1]? =some (I a):=by simp[ha,nI]
  have hnx:=az4 ha
  refine W.skip<|aA<|W.seq<|W.block<|W.seq<|W.region rfl<|qm rfl rfl rfl<|agb rfl rfl rfl<|pq ?_
  refine W.region rfl<|qm rfl rfl rfl<|qm rfl rfl rfl ?_
  first | refine agW (UN rfl rfl rfl) rfl ?_ | refine agW (Qg rfl rfl rfl) rfl ?_
  refine agX rfl ?_
  refine ag1 rfl ?_
  refine agb rfl rfl rfl<|Ops.nil<|dI<|aA<|W.region rfl ?_
  refine ag1 rfl ?_
  refine qm rfl rfl rfl<|pq ?_
  exact⟨rfl,j+1,by omega,by omega,⟨rfl,rfl,rfl,lk rfl (by rw[hnx]),trivial⟩,TW⟩
 ·obtain rfl:j=t:=by omega
  refine W.exit<|bP<|bP<|gG<|aA<|W.seq<|W.region rfl<|qm rfl rfl rfl<|agb rfl rfl rfl<|Ops.nil ?_
  refine aA<|W.ret ?_
  exact uZ rfl
end Go.aS

/- Groups of truths: the thickness of a pan; groups; bounds. Conditions: none; over the given program. -/
namespace Go.aS
set_option maxRecDepth 100000
set_option maxHeartbeats 4000000
abbrev ay0(vs vr vm vh:Value)(β:Nat):Obj:=.cells #[vs,vr,vm,vh,.slice none 0 0,.map (some β)] azX (0,0)

theorem aBA(main:Side)(h:Hp)(b β:Nat)(vs vr vm vh:Value)(r:Int)(k:List Int)(t:Nat)(hb:h b=some (ay0 vs vr vm vh β))(hr:Sl h fH vr [r])(hr1:1≤r∧r≤3)(hk:k.length=5)(ht:t≤5)(hb4:∀a∈k,0≤a∧a≤4):Pu prog main aw7 #[bI b,abl k,I 0,I t] h (I (r*Ju (k.take t))):=by
 have hl1:[r].length=1:=rfl
 have hsz:(k.map nI).toArray.size=5:=by simp[hk]
 have hon:ones (k.map nI).toArray.toList=true:=by
  have:∀l:List Int,ones (l.map nI)=true:=fun l=>by induction l with | nil=>rfl | cons a l ih=>exact ih
  exact this k
 have hb2:=ax1 (l:=k.take t) fun x hx=>hb4 x (List.mem_of_mem_take hx)
 have hlen:(k.take t).length≤5:=by rw[List.length_take];omega
 obtain⟨s,hs⟩:∃s,Ju (k.take t)=s:=⟨_,rfl⟩
 have hm:0≤r*Ju (k.take t)∧r*Ju (k.take t)≤60:=by
  rw[hs]
  have:r=1∨r=2∨r=3:=by omega
  rcases this with rfl | rfl | rfl <;>omega
 obtain⟨a,cap,rfl⟩:=hr.dA
 obtain⟨b',off,c,E,fz,e3,hbb,hx,hy,hz⟩:=hr.at (i:=0) (p:=r) rfl
 cases e3
 have x0:c[off+0*1+0]? =some (I r):=hz 0 (by decide)
 clear hx hz hy
 refine dV.aG ay2 rfl (by show 4≤21;decide) [(0,bI b),(1,abl k),(2,I 0),(3,I t)] ⟨rfl,rfl,rfl,rfl,trivial⟩ ?_
 refine W.seq<|W.region rfl ?_
 refine Ops.box (fun mZ=>?_)
 refine agb rfl rfl rfl<|pq<|W.seq ?_
 refine W.DR [(mZ,.cells (k.map nI).toArray atI (0,0))] (n:=13) rfl ?_
 refine xq 0 (aN rfl rfl) rfl ?_
 first | refine xq 1 (bg rfl rfl) rfl ?_ | refine xq 1 (aT rfl rfl) rfl ?_
 refine xq 2 (ay rfl rfl) rfl ?_
 refine xq 3 (ay rfl rfl) rfl ?_
 refine xq 4 (iQ rfl rfl) rfl ?_
 refine xq 5 (aN rfl rfl) rfl ?_
 first | refine xq 6 (G_ rfl rfl rfl) rfl ?_ | refine xq 6 (o_ rfl rfl rfl) rfl ?_
 refine xq 7 (iQ rfl rfl) rfl ?_
 first | refine xq 8 (Bf rfl rfl) rfl ?_ | refine xq 8 (zi rfl rfl) rfl ?_ | refine xq 8 (ady rfl rfl) rfl ?_
 refine xq 9 (aN rfl rfl) rfl ?_
 refine Va (i:=10) (fun h' hE hL=>aBz _ h' k t hk ht hb4) ?_
 first | refine xq 11 (aaC rfl rfl rfl) rfl ?_ | refine xq 11 (Fz rfl rfl rfl) rfl ?_
 refine xq 12 (jS rfl rfl) rfl ?_
 refine az ?_
 refine aA<|W.ret ?_
 exact uZ rfl

abbrev axZ(k:List Int)(s:Spn):Array Value:=(k.map nI).toArray++ #[I s.lo,I s.hi,I 0,I 0,I 0,I 0,I (s.hi-s.lo+1)]
abbrev aAu(k:List Int)(s:Spn):Value:=.agg (axZ k s)
theorem azk{k:List Int}{s:Spn}(hk:k.length=5):(axZ k s).size=12:=by simp[axZ,hk]
theorem aAH{k:List Int}{s:Spn}(hk:k.length=5):(axZ k s).extract 0 (0+5)=(k.map nI).toArray:=by
 obtain⟨a,b,c,d,e,rfl⟩:∃a b c d e,k=[a,b,c,d,e]:=by
  rcases k with _ | ⟨a,_ | ⟨b,_ | ⟨c,_ | ⟨d,_ | ⟨e,_ | ⟨f,k⟩⟩⟩⟩⟩⟩ <;>simp at hk
  exact⟨a,b,c,d,e,rfl⟩
 rfl
theorem five{k:List Int}(hk:k.length=5):∃a b c d e,k=[a,b,c,d,e]:=by
 rcases k with _ | ⟨a,_ | ⟨b,_ | ⟨c,_ | ⟨d,_ | ⟨e,_ | ⟨f,k⟩⟩⟩⟩⟩⟩ <;>simp at hk
 exact⟨a,b,c,d,e,rfl⟩

theorem aAT(main:Side)(h:Hp)(b β:Nat)(vs vr vm vh:Value)(r:Int)(s:Spn)(k:List Int)(t:Nat)(hb:h b=some (ay0 vs vr vm vh β))(hr:Sl h fH vr [r])(hr1:1≤r∧r≤3)(hs:0≤s.lo∧s.lo≤s.hi∧s.hi≤40)(hk:k.length=5)(ht:t≤5)(hb4:∀a∈k,0≤a∧a≤4):
  Pu prog main awS #[bI b,aAu k s,I 0,I t] h (Spn.val ⟨s.lo+r*Ju (k.take t),s.hi+r*Ju (k.take t)⟩):=by
 have hb2:=ax1 (l:=k.take t) fun x hx=>hb4 x (List.mem_of_mem_take hx)
 have hlen:(k.take t).length≤5:=by rw[List.length_take];omega
 have hadd:=fun h' (hE:Ext h h')=>aBA main h' b β vs vr vm vh r k t (hE.1 _ _ hb) (hr.ext hE) hr1 hk ht hb4
 have hm:0≤r*Ju (k.take t)∧r*Ju (k.take t)≤60:=by
  generalize Ju (k.take t)=s at*
  have:r=1∨r=2∨r=3:=by omega
  rcases this with rfl | rfl | rfl <;>omega
 generalize r*Ju (k.take t)=m at*
 obtain⟨k0,k1,k2,k3,k4,rfl⟩:=five hk
 refine dV.aG ayg rfl (by show 4≤31;decide) [(0,bI b),(1,aAu [k0,k1,k2,k3,k4] s),(2,I ((0:Nat):Int)),(3,I t)] ⟨rfl,rfl,rfl,rfl,trivial⟩ ?_
 refine W.seq<|W.region rfl ?_
 refine Ops.box (fun mZ=>?_)
 refine Ops.new (fun yD=>?_)
 refine pq<|W.seq<|W.region rfl<|qm rfl rfl rfl ?_
 refine agY rfl ?_
 first | refine ag2 rfl ?_ | refine agW (ady rfl rfl) rfl ?_
 refine qm rfl rfl rfl<|qm rfl rfl rfl ?_
 refine cp (fun h' hE hL=>hadd h' hE) ?_
 refine agb rfl rfl rfl<|pq<|W.seq ?_
 refine W.DR [(mZ,.cells (axZ [k0,k1,k2,k3,k4] s) lq (0,0))] (n:=16) rfl ?_
 refine xq 0 (aN rfl rfl) rfl ?_
 refine xq 1 (ay rfl rfl) rfl ?_
 first | refine xq 2 (UN rfl rfl rfl) rfl ?_ | refine xq 2 (Qg rfl rfl rfl) rfl ?_
 refine xq 3 (ay rfl rfl) rfl ?_
 refine xq 4 (iQ rfl rfl) rfl ?_
 refine xq 5 (aN rfl rfl) rfl ?_
 first | refine xq 6 (Zi rfl rfl rfl) rfl ?_ | refine xq 6 (MZ rfl rfl rfl) rfl ?_
 refine xq 7 (aN rfl rfl) rfl ?_
 refine xq 8 (ay rfl rfl) rfl ?_
 first | refine xq 9 (UN rfl rfl rfl) rfl ?_ | refine xq 9 (Qg rfl rfl rfl) rfl ?_
 refine xq 10 (ay rfl rfl) rfl ?_
 refine xq 11 (iQ rfl rfl) rfl ?_
 refine xq 12 (aN rfl rfl) rfl ?_
 first | refine xq 13 (Zi rfl rfl rfl) rfl ?_ | refine xq 13 (MZ rfl rfl rfl) rfl ?_
 refine xq 14 (eH rfl rfl rfl) rfl ?_
 first | refine ae (i:=15) rfl an rfl rfl (eSW rfl rfl rfl ?_) | refine ae (i:=15) rfl an rfl rfl (eSA rfl rfl rfl ?_)
 refine⟨.inl (by kernel_rfl),?_⟩
 refine az ?_
 refine aA<|W.ret ?_
 exact QJ (hv:=D_ zJ) ⟨rfl,.cons rfl (.cons rfl .nil)⟩

theorem awP{x:Cx}{ρ:Env}{F:ah}{o:Oper}{v:Value}{R:Value→ah→Prop}(hy:Yv x (· =F) ρ o v)(K:R v F):Ef x ρ o F R:=Ef.xW fun e he h' hE=>lM (hy e he F rfl h' hE) fun nx F' h=>⟨v,.inl h.1,h.2▸K⟩
def aCx:Option (Int×Int)→Array Value
 | none=> #[I 0,I 0,.bool false]
 | some (a,b)=> #[I a,I b,.bool true]
abbrev aAv(o:Option (Int×Int)):Obj:=.cells (aCx o) 80 (0,0)
def tkF:Option (Int×Int)→Int→Option (Int×Int)
 | none,n=>some (n,n)
 | some (a,b),n=>some (min a n,max b n)
theorem aav(main:Side)(h:Hp)(β:Nat)(o:Option (Int×Int))(n:Int):dV prog main QS #[bI β,I n] h [(β,aAv o)] (fun _ A=>Sb [(β,aAv (tkF o n))] A):=by
 rcases o with _ | ⟨a,b⟩
 ·show dV prog main QS #[bI β,I n] h [(β,.cells #[I 0,I 0,.bool false] 80 (0,0))] _
  refine dV.aG awI rfl (by show 2≤38;decide) [(0,bI β),(1,I n)] ⟨rfl,rfl,trivial⟩ ?_
  refine W.seq<|W.seq<|W.region rfl<|qm rfl rfl rfl ?_
  refine ag4 rfl ?_
  refine agY rfl ?_
  refine agX rfl ?_
  refine agW (xU rfl rfl) rfl ?_
  refine pq ?_
  refine W.cond rfl (fun c8=>?_) (fun c8=>?_)
  ·refine W.region rfl<|qm rfl rfl rfl<|qm rfl rfl rfl<|qm rfl rfl rfl<|qm rfl rfl rfl<|qm rfl rfl rfl ?_
   refine ag4 rfl ?_
   refine agY rfl ?_
   refine Ops.yG ?_
   refine ag4 rfl ?_
   refine agY rfl ?_
   refine Ops.yG ?_
   refine ag4 rfl ?_
   refine agY rfl ?_
   refine Ops.yG ?_
   refine pq ?_
   refine W.mono (Q:=(fun e ρ' ds' F'=>e= .normal∧ds'=[]∧Sb [(β,aAv (tkF none n))] F')) ?_ ?_
   ·refine W.DR [] (n:=20) rfl ?_
    refine xq 0 (aN rfl rfl) rfl ?_
    refine xq 1 (aN rfl rfl) rfl ?_
    refine xq 2 (aN rfl rfl) rfl ?_
    refine xq 3 (bg rfl rfl) rfl ?_
    refine xq 4 (ay rfl rfl) rfl ?_
    refine xq 6 (aN rfl rfl) rfl ?_
    refine xq 8 (aN rfl rfl) rfl ?_
    refine xq 9 (bg rfl rfl) rfl ?_
    refine xq 10 (ay rfl rfl) rfl ?_
    refine xq 12 (aN rfl rfl) rfl ?_
    refine Any.WB (i:=5) (j:=11) (by kernel_rfl) (aU rfl) (aU rfl) an an rfl rfl rfl rfl ?_ ?_
    ·refine awP (iQ rfl rfl (v:=I n)) ⟨.inr Keeps.nil,?_⟩
     refine xq 7 (Tm rfl rfl rfl) rfl ?_
     refine ae (i:=11) rfl an rfl rfl (awP (iQ rfl rfl (v:=I n)) ⟨.inr Keeps.nil,?_⟩)
     refine xq 13 (y8 rfl rfl rfl) rfl ?_
     refine xq 14 (bg rfl rfl) rfl ?_
     refine xq 15 (ay rfl rfl) rfl ?_
     refine ae (i:=16) rfl an rfl rfl (eS rfl rfl rfl ?_)
     refine⟨.inr Keeps.nil,?_⟩
     refine xq 17 (bg rfl rfl) rfl ?_
     refine xq 18 (ay rfl rfl) rfl ?_
     refine ae (i:=19) rfl an rfl rfl (eS rfl rfl rfl ?_)
     refine⟨.inr Keeps.nil,?_⟩
     refine az ?_
     exact⟨rfl,rfl,.eq (by rw[Int.min_self,Int.max_self];rfl)⟩
    ·refine awP (iQ rfl rfl (v:=I n)) ⟨.inr Keeps.nil,?_⟩
     refine xq 13 (y8 rfl rfl rfl) rfl ?_
     refine ae (i:=5) rfl an rfl rfl (awP (iQ rfl rfl (v:=I n)) ⟨.inr Keeps.nil,?_⟩)
     refine xq 7 (Tm rfl rfl rfl) rfl ?_
     refine xq 14 (bg rfl rfl) rfl ?_
     refine xq 15 (ay rfl rfl) rfl ?_
     refine ae (i:=16) rfl an rfl rfl (eS rfl rfl rfl ?_)
     refine⟨.inr Keeps.nil,?_⟩
     refine xq 17 (bg rfl rfl) rfl ?_
     refine xq 18 (ay rfl rfl) rfl ?_
     refine ae (i:=19) rfl an rfl rfl (eS rfl rfl rfl ?_)
     refine⟨.inr Keeps.nil,?_⟩
     refine az ?_
     exact⟨rfl,rfl,.eq (by rw[Int.min_self,Int.max_self];rfl)⟩
   rintro e ρ' ds' F' ⟨rfl,rfl,hsb⟩
   exact mg (vs:=[]) hsb
  ·exact absurd c8 (by simp)
 ·show dV prog main QS #[bI β,I n] h [(β,.cells #[I a,I b,.bool true] 80 (0,0))] _
  refine dV.aG awI rfl (by show 2≤38;decide) [(0,bI β),(1,I n)] ⟨rfl,rfl,trivial⟩ ?_
  refine W.seq<|W.seq<|W.region rfl<|qm rfl rfl rfl ?_
  refine ag4 rfl ?_
  refine agY rfl ?_
  refine agX rfl ?_
  refine agW (xU rfl rfl) rfl ?_
  refine pq ?_
  refine W.cond rfl (fun c8=>?_) (fun c8=>?_)
  ·exact absurd c8 (by simp)
  ·refine W.skip<|aA ?_
   refine W.mono (Q:=(fun e ρ' ds' F'=>e= .normal∧ds'=[]∧Sb [(β,aAv (tkF (some (a,b)) n))] F')) ?_ ?_
   ·refine W.DR [] (n:=20) rfl ?_
    refine xq 0 (aN rfl rfl) rfl ?_
    refine xq 1 (aN rfl rfl) rfl ?_
    refine xq 2 (aN rfl rfl) rfl ?_
    refine xq 3 (bg rfl rfl) rfl ?_
    refine xq 4 (ay rfl rfl) rfl ?_
    refine xq 6 (aN rfl rfl) rfl ?_
    refine xq 8 (aN rfl rfl) rfl ?_
    refine xq 9 (bg rfl rfl) rfl ?_
    refine xq 10 (ay rfl rfl) rfl ?_
    refine xq 12 (aN rfl rfl) rfl ?_
    refine Any.WB (i:=5) (j:=11) (by kernel_rfl) (aU rfl) (aU rfl) an an rfl rfl rfl rfl ?_ ?_
    ·refine awP (iQ rfl rfl (v:=I a)) ⟨.inr Keeps.nil,?_⟩
     refine xq 7 (Tm rfl rfl rfl) rfl ?_
     refine ae (i:=11) rfl an rfl rfl (awP (iQ rfl rfl (v:=I b)) ⟨.inr Keeps.nil,?_⟩)
     refine xq 13 (y8 rfl rfl rfl) rfl ?_
     refine xq 14 (bg rfl rfl) rfl ?_
     refine xq 15 (ay rfl rfl) rfl ?_
     refine ae (i:=16) rfl an rfl rfl (eS rfl rfl rfl ?_)
     refine⟨.inr Keeps.nil,?_⟩
     refine xq 17 (bg rfl rfl) rfl ?_
     refine xq 18 (ay rfl rfl) rfl ?_
     refine ae (i:=19) rfl an rfl rfl (eS rfl rfl rfl ?_)
     refine⟨.inr Keeps.nil,?_⟩
     refine az ?_
     exact⟨rfl,rfl,.refl⟩
    ·refine awP (iQ rfl rfl (v:=I b)) ⟨.inr Keeps.nil,?_⟩
     refine xq 13 (y8 rfl rfl rfl) rfl ?_
     refine ae (i:=5) rfl an rfl rfl (awP (iQ rfl rfl (v:=I a)) ⟨.inr Keeps.nil,?_⟩)
     refine xq 7 (Tm rfl rfl rfl) rfl ?_
     refine xq 14 (bg rfl rfl) rfl ?_
     refine xq 15 (ay rfl rfl) rfl ?_
     refine ae (i:=16) rfl an rfl rfl (eS rfl rfl rfl ?_)
     refine⟨.inr Keeps.nil,?_⟩
     refine xq 17 (bg rfl rfl) rfl ?_
     refine xq 18 (ay rfl rfl) rfl ?_
     refine ae (i:=19) rfl an rfl rfl (eS rfl rfl rfl ?_)
     refine⟨.inr Keeps.nil,?_⟩
     refine az ?_
     exact⟨rfl,rfl,.refl⟩
   rintro e ρ' ds' F' ⟨rfl,rfl,hsb⟩
   exact mg (vs:=[]) hsb
end Go.aS

/- Groups of truths, of one pan, without proofs. Conditions: none; over the given program. -/
namespace Go.aS
set_option maxRecDepth 100000
set_option maxHeartbeats 400000
abbrev aBh(k0 k1 k2 k3 k4:Int)(s:Spn)(n:Int):Array Value:= #[I k0,I k1,I k2,I k3,I k4,I s.lo,I s.hi,I 0,I 0,I 0,I 0,I n]
theorem aAU(main:Side)(h:Hp)(b β:Nat)(vs vr vm vh:Value)(s:Spn)(k:List Int)(hb:h b=some (ay0 vs vr vm vh β))(hm:Sl h Spn.row vs [s])(hs:0≤s.lo∧s.lo≤s.hi∧s.hi≤40)(hk:k.length=5):
  Pu prog main awZ #[bI b,abl k,.slice none 0 0] h (aAu k s):=by
 have hl1:[s].length=1:=rfl
 obtain⟨k0,k1,k2,k3,k4,rfl⟩:=five hk
 obtain⟨a,cap,rfl⟩:=hm.dA
 refine dV.aG ayk rfl (by show 3≤80;decide) [(0,bI b),(1,.agg #[I k0,I k1,I k2,I k3,I k4]),(2,.slice none 0 0)] ⟨rfl,rfl,rfl,trivial⟩ ?_
 refine W.seq<|W.region rfl ?_
 refine Ops.box (fun wC=>?_)
 refine Ops.new (fun yC=>?_)
 refine pq<|W.seq<|W.region rfl ?_
 first | refine ag2 rfl ?_ | refine agW (ady rfl rfl) rfl ?_
 refine agW (eH (cs:= #[I k0,I k1,I k2,I k3,I k4,I 0,I 0,I 0,I 0,I 0,I 0,I 1]) rfl rfl (by kernel_rfl)) rfl ?_
 refine Ops.new (fun Vo=>?_)
 first | refine Ops.jP ?_ | refine Ops.nY ?_
 refine pq<|W.seq ?_
 refine W.DR [] (n:=8) rfl ?_
 refine xq 0 (ay rfl rfl) rfl ?_
 refine xq 1 (azv rfl rfl) rfl ?_
 refine xq 2 (aN rfl rfl) rfl ?_
 first | refine xq 3 (bg rfl rfl) rfl ?_ | refine xq 3 (aT rfl rfl) rfl ?_
 refine xq 4 (ay rfl rfl) rfl ?_
 refine xq 5 (ay rfl rfl) rfl ?_
 refine xq 6 (iQ rfl rfl) rfl ?_
 refine ae (i:=7) rfl an rfl rfl (avI (row:=Spn.row) (l:=[s]) rfl rfl rfl hm (Nat.le_of_ble_eq_true rfl) At.head (Nat.le_of_ble_eq_true rfl) ?_)
 refine⟨.inr Keeps.nil,?_⟩
 refine az ?_
 refine aA<|W.seq<|W.seq<|W.region rfl<|qm rfl rfl rfl ?_
 refine agW (dM rfl rfl) rfl ?_
 refine qm rfl rfl rfl<|pq<|W.block ?_
 refine W.sb (F':=[(Vo,.cells (aBh k0 k1 k2 k3 k4 s 1) lq (0,0)),(yC,.cells (#[I 0,I 0,I 0,I 0,I 0,I 0,I 0,I 0,I 0,I 0,I 0,I 0]) lq (0,0))]) (Sb.trans ?_ (.cons (.cons (.skip rfl .refl)))) ?_
 ·exact .eq (by kernel_rfl)
 refine W.loop (σ:=Nat) (fun j=>j=0) (fun j=>[(25,I 0),(24,I 0),(0,bI b),(6,bI yC),(7,bI Vo)]) (fun _=>[(Vo,.cells (aBh k0 k1 k2 k3 k4 s 1) lq (0,0)),(yC,.cells (#[I 0,I 0,I 0,I 0,I 0,I 0,I 0,I 0,I 0,I 0,I 0,I 0]) lq (0,0))]) (fun k=>0) 0 rfl ⟨rfl,rfl,rfl,rfl,rfl,trivial⟩ .refl ?_
 rintro j rfl
 refine W.seq<|W.region rfl ?_
 refine agW (fO rfl rfl rfl) rfl ?_
 refine pq<|W.seq ?_
 refine W.bC rfl (fun c26=>?_) (fun c26=>?_)
 ·exact absurd ‹_› (by decide)
 ·refine W.exit<|bP<|bP<|gG<|aA<|W.seq<|W.seq<|W.region rfl<|qm rfl rfl rfl ?_
  refine ag4 rfl ?_
  refine agY rfl ?_
  refine agY rfl ?_
  refine agX rfl ?_
  refine agW (dM rfl rfl) rfl ?_
  refine qm rfl rfl rfl<|pq<|W.block ?_
  refine W.loop (σ:=Nat) (fun j=>j≤1) (fun j=>[(66,I j),(65,I 1),(6,bI yC),(7,bI Vo)]) (fun j=>[(Vo,.cells (aBh k0 k1 k2 k3 k4 s (if j=0 then 1 else s.hi-s.lo+1)) lq (0,0)),(yC,.cells (#[I 0,I 0,I 0,I 0,I 0,I 0,I 0,I 0,I 0,I 0,I 0,I 0]) lq (0,0))]) (fun j=>1-j) 0 (by decide) ⟨rfl,rfl,rfl,rfl,trivial⟩ .refl ?_
  rintro j hj
  refine W.seq<|W.region rfl ?_
  refine agW (fO rfl rfl rfl) rfl ?_
  refine pq<|W.seq ?_
  refine W.bC rfl (fun c67=>?_) (fun c67=>?_)
  ·obtain rfl:j=0:=by omega
   refine W.skip<|aA<|W.seq<|W.block<|W.seq<|W.region rfl<|qm rfl rfl rfl<|agb rfl rfl rfl<|pq ?_
   refine W.DR [(Vo,.cells (aBh k0 k1 k2 k3 k4 s (if 0=0 then 1 else s.hi-s.lo+1)) lq (0,0))] (n:=10) rfl ?_
   refine xq 0 (ay rfl rfl) rfl ?_
   refine xq 1 (iQ rfl rfl) rfl ?_
   refine xq 2 (aN rfl rfl) rfl ?_
   refine xq 3 (ay rfl rfl) rfl ?_
   first | refine xq 4 (UN rfl rfl rfl) rfl ?_ | refine xq 4 (Qg rfl rfl rfl) rfl ?_
   first | refine xq 5 (Bf rfl rfl) rfl ?_ | refine xq 5 (zi rfl rfl) rfl ?_ | refine xq 5 (ady rfl rfl) rfl ?_
   refine Va (i:=6) (fun h' hE hL=>aAt _ h' s (by omega)) ?_ (hS:=.inr (Keeps.one (.head _) Keeps.nil))
   refine xq 7 (aaC rfl rfl rfl (by rw[if_pos rfl];omega) (by rw[if_pos rfl];omega)) rfl ?_
   refine xq 8 (ay rfl rfl) rfl ?_
   refine ae (i:=9) rfl an rfl rfl (eS rfl rfl rfl ?_)
   refine⟨.inl (by kernel_rfl),?_⟩
   refine az ?_
   refine dI<|aA<|W.region rfl ?_
   refine ag1 rfl ?_
   refine qm rfl rfl rfl<|pq ?_
   refine⟨rfl,1,by omega,by omega,⟨rfl,rfl,rfl,rfl,trivial⟩,.eq ?_⟩
   rw[if_neg (by decide),if_pos rfl,Int.one_mul]
   rfl
  ·obtain rfl:j=1:=by omega
   refine W.exit<|bP<|bP<|gG<|aA<|W.seq<|W.region rfl ?_
   first | refine ag2 rfl ?_ | refine agW (ady rfl rfl) rfl ?_
   first | refine Ops.jP ?_ | refine Ops.nY ?_
   refine pq<|W.ret ?_
   exact QJ (hv:=D_ zJ) ⟨rfl,.cons rfl (.cons rfl .nil)⟩
end Go.aS

/- Queues: slices of one's own that begin somewhere in their block; maps whose keys are ints. Conditions: none; over any program. -/
namespace Go.aS
section
variable{α:Type}{row:α→List Value}{w:Nat}[rw':Rw row w]
def Oq(E:TypeId)(row:α→List Value)[Rw row w](v:Value)(l:List α)(A:ah):Prop:=
 (l=[]∧v= .slice none 0 0∧Shut A)∨∃β c o cap J,v= .slice (some ⟨β,o,none⟩) l.length cap∧A=(β,.cells c E (0,0))::J∧o+cap*w≤c.size∧l.length≤cap∧Part c o (flat row l)∧Shut J
theorem Oq.shut{E:TypeId}{v:Value}{l:List α}{A:ah}(H:Oq E row v l A):Shut A:=by
 rcases H with⟨_,_,h⟩ | ⟨β,c,o,cap,J,_,rfl,_,_,_,h⟩
 ·exact h
 ·exact .cons rfl h
end
section rules
variable{x:Cx}{ρ:Env}{F:ah}{S:ah→Prop}{o:Oper}{R:Value→ah→Prop}
section
variable{α:Type}{row:α→List Value}{w:Nat}[rw':Rw row w]
end
end rules
end Go.aS

/- Maps whose keys are ints. Conditions: none; over any program. -/
namespace Go.aS
def ER(es:Array MapEntry)(f:Int→Option Value):Prop:=∃m:List (Int×Value),es.toList.map (fun e=>(e.key,e.val))=m.map (fun p=>(nI p.1,p.2))∧(m.map (·.1)).Nodup∧∀x,m.lookup x=f x
theorem ER.nil:ER #[] fun _=>none:=⟨[],rfl,List.nodup_nil,fun _=>rfl⟩

section
variable{P:Program}{h:Hp}{F:ah}{β:Type}{Q:β→ah→Prop}{t:Nat}
end
section rules
variable{x:Cx}{ρ:Env}{F:ah}{S:ah→Prop}{o:Oper}{R:Value→ah→Prop}
end rules
end Go.aS

/- Iterators whose elements lie in blocks of their own: what is handed out is read while it is lent, and may be kept where the iterator ends. Conditions: none; over any program. -/
namespace Go.aS
def Vw(P:Program)(main:Side)(yv:Value)(h:Hp){X:Type}(Val:X→Value→ah→Prop)(xs:List X)(J:Nat→ah→Prop)(K:Nat→Value→ah→Prop):Prop:=
 ∀h',Ext h h'→∀k x v S A,xs[k]? =some x→Val x v S→fF S h'→J k A→gZ P main yv [v] h' A fun r A'=>(r= .bool true∧∃B,J (k+1) B∧Sb B A')∨(r= .bool false∧∃B,K k v B∧Sb B A')
def adE{X:Type}(Val:X→Value→ah→Prop)(xs:List X)(J:Nat→ah→Prop)(K:Nat→Value→ah→Prop)(A':ah):Prop:=
 (∃B,J xs.length B∧Sb B A')∨∃k x v S B,xs[k]? =some x∧Val x v S∧K k v B∧Sb (B++S) A'
def Me(P:Program)(main:Side)(fv:Value){X:Type}(Val:X→Value→ah→Prop)(xs:List X)(h:Hp):Prop:=
 ∀h',Ext h h'→∀(yv:Value),one yv=true→∀(J:Nat→ah→Prop) (K:Nat→Value→ah→Prop),Vw P main yv h' Val xs J K→∀A,J 0 A→gZ P main fv [yv] h' A fun _ A'=>adE Val xs J K A'
theorem Vw.ext{P:Program}{main:Side}{yv:Value}{h h':Hp}{X:Type}{Val:X→Value→ah→Prop}{xs:List X}{J:Nat→ah→Prop}{K:Nat→Value→ah→Prop}(H:Vw P main yv h Val xs J K)(e:Ext h h'):Vw P main yv h' Val xs J K:=
 fun h'' e'=>H h'' (e.trans e')
theorem Me.ext{P:Program}{main:Side}{fv:Value}{X:Type}{Val:X→Value→ah→Prop}{xs:List X}{h h':Hp}(H:Me P main fv Val xs h)(e:Ext h h'):Me P main fv Val xs h':=
 fun h'' e'=>H h'' (e.trans e')

theorem W.abV{x:Cx}{Q:Post}{ρ:Env}{ds:List Deferred}{F:ah}{f:Operand}{t:Tmp}{us bd:Code}{fv:Value}{X:Type}{Val:X→Value→ah→Prop}{xs:List X}(hf:ev ρ f=some fv)(hro:x.ro=none)(ht:Nat.blt t x.n=true)
  (D:Nat→ah→Prop) (DX:Nat→Value→Exit→ah→Prop) {A₀:ah} {g_:ah→ah} (hs:Seg A₀ F g_) (h0:D 0 A₀)
  (hi:∀h',Ext x.h h'→fF (g_ []) h'→Me x.P x.main fv Val xs h')
  (
   body:∀k p v S A,xs[k]? =some p→Val p v S→D k A→∀l h',Ext x.h h'→fF (g_ []) h'→fF S h'→W {x with ro:=some l,h:=h'} us (fun e xP xQ qp=>e= .normal∧xQ=[]∧∀h',Ext x.h h'→fF (g_ []) h'→fF S h'→
   W {x with ro:=some l,h:=h'} bd (fun e _ ds₂ kP=>ds₂=[]∧((e= .normal∧∃B,D (k+1) B∧Sb B kP)∨((tK e).isSome=true∧∃B,DX k v e B∧Sb B kP))) xP [] qp) ((t,v)::ρ) [] A)
  (after:∀A,D xs.length A→∀d,Q .normal ρ (mark d::ds) ((d,.deferred (some []))::g_ A))
  (afterX:∀k p v S e B,xs[k]? =some p→Val p v S→DX k v e B→∀d,Q e ρ (mark d::ds) ((d,.deferred (some []))::g_ (B++S))):W x (.rangeFunc f #[t] us bd) Q ρ ds F:=by
 refine W.rangeFunc hf hro fun tmps hρ hsz l d=>?_
 let L (s:LoopState) (pd:Option Code):Obj:=.loop {state:=s,pending:=pd,fn:=x.fn,tmps,params:= #[t],assign:=us,body:=bd,defers:=d}
 let J:Nat→ah→Prop:=fun k A=>∃B,D k B∧A=B++[(l,L .ready none)]
 let K:Nat→Value→ah→Prop:=fun k v A=>∃B e c,DX k v e B∧tK e=some c∧A=B++[(l,L .done (some c))]
 refine⟨A₀++[(l,L .ready none)],(d,.deferred (some []))::g_ [],fun _ A'=>adE Val xs J K A',?_,?_,?_⟩
 ·refine(List.perm_append_comm.append_right _).trans ?_
  refine List.Perm.cons _ ?_
  exact List.perm_middle.trans (hs.perm.1.cons _)
 ·intro h' e1 e2
  have e3:fF (g_ []) h':=fun b o hb=>e2 b o (List.mem_cons_of_mem _ hb)
  refine hi h' e1 e3 h' ⟨fun _ _ z=>z,fun _ z=>z⟩ _ rfl J K ?_ _ ⟨A₀,h0,rfl⟩
  rintro h'' e4 k p v S A hp hV hS ⟨B,hB,rfl⟩
  have hE:Ext x.h h'':=e1.trans e4
  have hL:fF (g_ []) h'':=fun b o hb=>e4.1 _ _ (e3 b o hb)
  refine⟨_,_,_,rfl,?_⟩
  simp only[invoke,Instr.yield,Instr.getLoop,bind_eq,au,bind_assoc]
  refine⟨L .ready none,.inr (List.mem_append_right _ (List.mem_cons_self ..)),(fun _ _ _=>by simp[L]),rfl,?_⟩
  have ez:Array.foldl (fun(tmps:Array Value) (x:Tmp×Value)=>tmps.setIfInBounds x.1 x.2) tmps (#[t].zip #[v])=tmps.setIfInBounds t v:=by simp
  show ni x.P x.main h'' _ (.round l x.fn (Array.foldl (fun(tmps:Array Value) (x:Tmp×Value)=>tmps.setIfInBounds x.1 x.2) tmps (#[t].zip #[v])) us bd) _
  rw[ez]
  have hlt:t<tmps.size:=by rw[hsz];exact Nat.le_of_ble_eq_true ht
  have WG:dQ ((t,v)::ρ) (tmps.setIfInBounds t v):=hρ.put hlt _
  have hsz':(tmps.setIfInBounds t v).size=x.n:=by simpa using hsz
  show Rnd x.P x.main l x.fn (tmps.setIfInBounds t v) us bd h'' _ _
  refine Rnd.aG _ WG ?_
  rw[hsz']
  refine(W.frame (x:={x with ro:=some l,h:=h''}) fun h₃ e5 _=>body k p v S B hp hV hB l h₃ (hE.trans e5) (fun b o hb=>e5.1 _ _ (hL b o hb)) (fun b o hb=>e5.1 _ _ (hS b o hb))).mono ?_
  rintro e xP xQ qp ⟨A',⟨rfl,rfl,hbd⟩,rfl⟩
  refine⟨rfl,rfl,?_⟩
  simp only[Instr.beginRound,Instr.getLoop,bind_eq,au,bind_assoc]
  refine⟨L .ready none,.inr (List.mem_append_right _ (List.mem_cons_self ..)),(fun _ _ _=>by simp[L]),rfl,?_⟩
  refine⟨L .ready none,A',[],rfl,(fun _ _ _=>by simp[L]),rfl,?_⟩
  show W _ _ _ _ _ (A'++[(l,L .busy none)])
  refine(W.frame (x:={x with ro:=some l,h:=h''}) fun h₃ e5 _=>hbd h₃ (hE.trans e5) (fun b o hb=>e5.1 _ _ (hL b o hb)) (fun b o hb=>e5.1 _ _ (hS b o hb))).mono ?_
  rintro e tC ds₂ kP ⟨A₂,⟨rfl,hcase⟩,rfl⟩
  rcases hcase with⟨rfl,Bg,BO,hsb⟩ | ⟨hj,Bg,BO,hsb⟩
  ·refine⟨rfl,none,rfl,?_⟩
   simp only[Instr.endRound,Instr.getLoop,bind_eq,au,bind_assoc]
   refine⟨L .busy none,.inr (List.mem_append_right _ (List.mem_cons_self ..)),(fun _ _ _=>by simp[L]),rfl,?_⟩
   refine⟨L .busy none,A₂,[],rfl,(fun _ _ _=>by simp[L]),rfl,?_⟩
   exact .inl ⟨rfl,Bg++[(l,L .ready none)],⟨Bg,BO,rfl⟩,hsb.app .refl⟩
  ·obtain⟨c,hc⟩:=Option.isSome_iff_exists.1 hj
   refine⟨rfl,some c,?_,?_⟩
   ·have:=uy (e:=some e) (fun x hx=>by cases hx;exact hj)
    rw[←hc];exact this
   simp only[Instr.endRound,Instr.getLoop,bind_eq,au,bind_assoc]
   refine⟨L .busy none,.inr (List.mem_append_right _ (List.mem_cons_self ..)),(fun _ _ _=>by simp[L]),rfl,?_⟩
   refine⟨L .busy none,A₂,[],rfl,(fun _ _ _=>by simp[L]),rfl,?_⟩
   exact .inr ⟨rfl,Bg++[(l,L .done (some c))],⟨Bg,e,c,BO,hc,rfl⟩,hsb.app .refl⟩
 ·rintro _ A' (⟨B,⟨A,hA,rfl⟩,hsub⟩ | ⟨k,p,v,S,B,hp,hV,⟨A,e,c,hA,hc,rfl⟩,hsub⟩)
  ·refine⟨A++[(l,L .ready none)],hsub,?_⟩
   simp only[Instr.endLoop,Instr.getLoop,bind_eq,au,bind_assoc]
   refine⟨L .ready none,.inr (List.mem_append_left _ (List.mem_append_right _ (List.mem_cons_self ..))),(fun _ _ _=>by simp[L]),rfl,?_⟩
   refine⟨L .ready none,A,(d,.deferred (some []))::g_ [],by simp,(fun _ _ _=>by simp[L]),rfl,?_⟩
   refine⟨(d,.deferred (some []))::g_ A,?_,after A hA d⟩
   refine Sb.trans (Sb.dF ((hs.perm.2 A).cons _)) ?_
   refine(Sb.dF List.perm_middle.symm).trans (Sb.app .refl (Sb.skip rfl .refl))
  ·refine⟨A++[(l,L .done (some c))]++S,hsub,?_⟩
   simp only[Instr.endLoop,Instr.getLoop,bind_eq,au,bind_assoc]
   refine⟨L .done (some c),.inr (by simp),(fun _ _ _=>by simp[L]),rfl,?_⟩
   refine⟨L .done (some c),A,S++(d,.deferred (some []))::g_ [],by simp,(fun _ _ _=>by simp[L]),rfl,?_⟩
   show W x c Q ρ (mark d::ds) _
   refine W.sb (F':=(d,.deferred (some []))::g_ (A++S)) ?_ ?_
   ·refine Sb.trans (Sb.dF ((hs.perm.2 (A++S)).cons _)) ?_
    refine(Sb.dF (List.Perm.symm (List.perm_middle (l₁:=A++S)))).trans ?_
    rw[List.append_assoc]
    exact Sb.app .refl (Sb.skip rfl .refl)
   ·have q:=afterX k p v S e A hp hV hA d
    cases e <;>simp only[tK,Option.some.injEq]at hc <;>first | (cases hc;done) | subst hc
    ·exact W.exit q
    ·exact W.goto q
    ·exact W.ret q
end Go.aS
namespace Go.aS
end Go.aS

/- All truths with some heats, gone through. Conditions: none; over the given program. -/
namespace Go.aS
set_option maxRecDepth 100000
set_option maxHeartbeats 1000000
theorem Qy{α:Type}{xs a b:List α}{k:Nat}(h:xs.drop k=a++b):xs.drop (k+a.length)=b:=by
 rw[←List.drop_drop,h,List.drop_left]
theorem drop_at{α:Type}{xs b:List α}{x:α}{k:Nat}(h:xs.drop k=x::b):xs[k]? =some x:=by
 have:=congrArg (fun l=>l[0]?) h
 simpa[List.getElem?_drop]using this
theorem VF{α β:Type}{os:List α}{g:α→List β}{j:Nat}{p:α}(h:os[j]? =some p):(os.take (j+1)).flatMap g=(os.take j).flatMap g++g p:=by
 rw[List.take_add_one,h,List.flatMap_append];simp
theorem VG{α β:Type}{os:List α}{g:α→List β}{xs rest:List β}{k j:Nat}{p:α}(hx:xs.drop k=os.flatMap g++rest)(h:os[j]? =some p):xs.drop (k+((os.take j).flatMap g).length)=g p++((os.drop (j+1)).flatMap g++rest):=by
 have hj:j<os.length:=by
  rcases Nat.lt_or_ge j os.length with h' | h'
  ·exact h'
  ·rw[List.getElem?_eq_none h']at h;cases h
 obtain⟨p',hp',hd⟩:=has hj
 rw[h]at hp'
 cases hp'
 refine Qy (b:=g p++((os.drop (j+1)).flatMap g++rest)) ?_
 rw[hx]
 have e:os.flatMap g=(os.take j).flatMap g++(g p++(os.drop (j+1)).flatMap g):=
  calc os.flatMap g=(os.take j++os.drop j).flatMap g:=by rw[List.take_append_drop]
   _=_:=by rw[hd,List.flatMap_append,List.flatMap_cons]
 rw[e]
 simp only[List.append_assoc]

theorem adS{b:Bool}(h:(!b)=true):b=false:=by simpa using h
theorem adT{b:Bool}(h:(!b)=false):b=true:=by simpa using h

def asl(x:List Int):List Int:=x++List.replicate (5-x.length) 0
theorem azb{x:List Int}(h:x.length≤5):(asl x).length=5:=by simp[asl];omega
theorem aAV{x:List Int}(h:x.length≤5):jv #[I 0,I 0,I 0,I 0,I 0] 0 (flat fH x)=((asl x).map nI).toArray:=by
 rcases x with _ | ⟨a,_ | ⟨b,_ | ⟨c,_ | ⟨d,_ | ⟨e,_ | ⟨f,x⟩⟩⟩⟩⟩⟩
 ·rfl
 ·rfl
 ·rfl
 ·rfl
 ·rfl
 ·rfl
 ·simp only[List.length_cons]at h;omega
def aBD(s0:Spn)(x:List Int)(v:Value)(S:ah):Prop:=v=aAu (asl x) s0∧S=[]
abbrev aAW(b1 b2 b3 b4 b5:Nat):Value:=.func (.func awz) #[] #[bI b1,bI b2,bI b3,bI b4,bI b5]
def GrE(xs:List (List Int))(s0:Spn)(J:Nat→ah→Prop)(K:Nat→Value→ah→Prop)(lv:Value)(pre:List Int)(k2:Nat)(v:Value)(B:ah)(S:ah):Prop:=
 Os dL fH lv pre S∧((v= .bool true∧J k2 B)∨(v= .bool false∧∃k x,xs[k]? =some x∧K k (aAu (asl x) s0) B))
theorem GrE.stop{xs:List (List Int)}{s0:Spn}{J:Nat→ah→Prop}{K:Nat→Value→ah→Prop}{lv:Value}{pre:List Int}{k2 k3:Nat}{B S:ah}(h:GrE xs s0 J K lv pre k2 (.bool false) B S):GrE xs s0 J K lv pre k3 (.bool false) B S:=by
 obtain⟨h1,h2⟩:=h
 refine⟨h1,.inr ?_⟩
 rcases h2 with⟨h2,_⟩ | h2
 ·cases h2
 ·exact h2
theorem GrE.bool{xs:List (List Int)}{s0:Spn}{J:Nat→ah→Prop}{K:Nat→Value→ah→Prop}{lv:Value}{pre:List Int}{k2:Nat}{v:Value}{B S:ah}(h:GrE xs s0 J K lv pre k2 v B S):∃r,v= .bool r:=by
 obtain⟨_,⟨h3,_⟩ | ⟨h3,_⟩⟩:=h
 ·exact⟨_,h3⟩
 ·exact⟨_,h3⟩
theorem aB4{B S2 S3 A0 B1:ah}{x y:Nat×Obj}(hsb:Sb (B++S2) B1)(h3:Sb S3 (S2++A0))(hx:opn x.2=false)(hy:opn y.2=false):Sb (B++S3) (B1++x::y::A0):=by
 refine(Sb.app (A:=B) (B:=B) .refl h3).trans ?_
 rw[←List.append_assoc]
 exact hsb.app (.skip hx (.skip hy .refl))
theorem aBu{B S2 S3 A0 B1:ah}{x y:Nat×Obj}(hsb:Sb (B++S2) B1)(h3:Sb S3 (S2++A0))(hx:opn x.2=false):Sb (y::(B++S3)) (B1++x::y::A0):=by
 refine Sb.trans (B:=y::(B1++A0)) (.cons ?_) ?_
 ·refine(Sb.app (A:=B) (B:=B) .refl h3).trans ?_
  rw[←List.append_assoc]
  exact hsb.app .refl
 ·refine Sb.trans (Sb.dF (List.perm_middle (l₁:=B1)).symm) (Sb.app .refl (.skip hx .refl))

theorem aBi(main:Side)(s0 f0:Spn)(hs:List Spn)(vs vr vm vh yv:Value)(b β b1 b2 b3 b4 b5:Nat)(E1 E2 E3 E4 E5:TypeId)(z1 z2 z3 z4 z5:Nat×Nat)(h5:hs.length≤5)(hb4:∀s∈hs,0≤s.lo∧s.lo≤s.hi∧s.hi≤4)(h0:hs[0]? =some f0)(hs0:0≤s0.lo∧s0.lo≤s0.hi∧s0.hi≤40)(hy1:one yv=true)(xs:List (List Int))(J:Nat→ah→Prop)(K:Nat→Value→ah→Prop):
  ∀(hs2:List Spn) (pre:List Int) (h:Hp) (k:Nat) (rest:List (List Int)) (A S:ah) (lv:Value),hs.drop pre.length=hs2→pre.length≤hs.length→Sl h Spn.row vs [s0]→Sl h Spn.row vh hs→h b=some (ay0 vs vr vm vh β)→
   h b1=some (.cells #[bI b] E1 z1)→h b2=some (.cells #[.slice none 0 0] E2 z2)→h b3=some (.cells #[yv] E3 z3)→h b4=some (.cells #[I f0.lo,I f0.hi] E4 z4)→h b5=some (.cells #[aAW b1 b2 b3 b4 b5] E5 z5)→
   Vw prog main yv h (aBD s0) xs J K→xs.drop k=(allH hs2).map (pre++ ·)++rest→J k A→Os dL fH lv pre S→
   dV prog main awz #[lv,bI b1,bI b2,bI b3,bI b4,bI b5] h (A++S) (fun v A'=>∃B S',GrE xs s0 J K lv pre (k+(allH hs2).length) v B S'∧Sb (B++S') A'):=by
 intro hs2
 induction hs2 with
 | nil=>
  intro pre h k rest A S lv hd hpl hm hh hb hb1 hb2 hb3 aBj hb5 hy hx hJ hO
  have hpn:pre.length=hs.length:=by
   have:=congrArg List.length hd
   simp at this;omega
  have hp5:=azb (x:=pre) (by omega)
  have aCy:((asl pre).map nI).toArray.size=5:=by simp[hp5]
  have aDk:((asl pre).map nI).toArray.extract 0 (0+5)=((asl pre).map nI).toArray:=by
   rw[Array.extract_eq_self_of_le (by rw[aCy];omega)]
  have aAX:(axZ (asl pre) s0).size=12:=azk hp5
  have aDl:(axZ (asl pre) s0)[11]? =some (I (s0.hi-s0.lo+1)):=by
   obtain⟨c0,c1,c2,c3,c4,e⟩:=five hp5
   rw[e];rfl
  have aB5:ones (axZ (asl pre) s0).toList=true:=by
   obtain⟨c0,c1,c2,c3,c4,e⟩:=five hp5
   rw[e];rfl
  have aB6:(axZ (asl pre) s0).extract 0 (0+12)=axZ (asl pre) s0:=by
   rw[Array.extract_eq_self_of_le (by rw[aAX];omega)]
  obtain⟨a,cap,rfl⟩:=hh.dA
  obtain⟨al,cl,rfl⟩:=hO.dA
  have hxk:xs[k]? =some pre:=by
   refine drop_at (b:=rest) ?_
   rw[hx];simp[allH]
  refine dV.aG awK rfl (by show 6≤64;decide) [(0,.slice al pre.length cl),(1,bI b1),(2,bI b2),(3,bI b3),(4,bI b4),(5,bI b5)] ⟨rfl,rfl,rfl,rfl,rfl,rfl,trivial⟩ ?_
  refine W.seq<|W.region rfl<|agb rfl rfl rfl<|pq<|W.seq<|W.seq<|W.region rfl<|qm rfl rfl rfl ?_
  refine agW (dM rfl rfl) rfl ?_
  refine agX rfl ?_
  refine ag4 rfl ?_
  refine agY rfl ?_
  refine agY rfl ?_
  refine agX rfl ?_
  refine agW (dM rfl rfl) rfl ?_
  refine agW (nD rfl rfl rfl) rfl ?_
  refine pq ?_
  refine W.bC rfl (fun c20=>?_) (fun c20=>?_)
  ·refine W.seq<|W.region rfl ?_
   refine Ops.new (fun yD=>?_)
   refine pq<|W.seq<|W.region rfl ?_
   refine agW (azv rfl rfl) rfl ?_
   refine qm rfl rfl rfl ?_
   refine oe rfl wn rfl rfl (aBg (row:=fH) (l:=pre) (b:=yD) rfl rfl rfl hO (fun p hp=>List.mem_cons_of_mem _ (List.mem_append_right _ hp)) (by omega) At.head (by simp;omega) ?_)
   rw[aAV (by omega)]
   refine pq<|W.seq<|W.region rfl ?_
   refine agX rfl ?_
   first | refine ag2 rfl ?_ | refine agW (ady rfl rfl) rfl ?_
   refine agX rfl ?_
   refine cp (fun h' hE hL=>aAU _ h' b β _ _ _ _ s0 (asl pre) (hE.1 _ _ hb) (hm.ext hE) hs0 hp5) ?_
   refine Ops.new (fun Uw=>?_)
   first | refine Ops.jP ?_ | refine Ops.nY ?_
   refine pq<|W.seq<|W.region rfl ?_
   refine agY rfl ?_
   refine agX rfl ?_
   refine agW (nD rfl rfl rfl) rfl ?_
   refine qm rfl rfl rfl ?_
   refine Ops.ask (fun aeY=>?_) (fun aeY=>?_)
   ·refine Ops.no ?_
    refine Ops.no ?_
    refine Ops.no ?_
    refine agW (dG rfl rfl rfl) rfl ?_
    refine agb rfl rfl rfl<|pq<|W.ret<|aY ?_
    first
     | (exfalso;omega)
     | (
       rcases hr1 with⟨rfl,B,hJB,hsb⟩ | ⟨rfl,B,hKB,hsb⟩
       ·exact mg (vs:=[.bool true]) ⟨B,S,⟨hO,.inl ⟨rfl,hJB⟩⟩,hsb.app (.skip rfl (.skip rfl .refl))⟩
       ·exact mg (vs:=[.bool false]) ⟨B,S,⟨hO,.inr ⟨rfl,k,pre,hxk,hKB⟩⟩,hsb.app (.skip rfl (.skip rfl .refl))⟩)
   ·refine oq (iQ rfl rfl) rfl (ak rfl rfl rfl) rfl rfl ?_
    first | refine oq (Bf rfl rfl) rfl (ak rfl rfl rfl) rfl rfl ?_ | refine oq (zi rfl rfl) rfl (ak rfl rfl rfl) rfl rfl ?_ | refine oq (ady rfl rfl) rfl (ak rfl rfl rfl) rfl rfl ?_
    refine Ops.perm (F':=A++((Uw,.cells (axZ (asl pre) s0) lq (0,0))::(yD,.cells ((asl pre).map nI).toArray atI (0,0))::S)) (List.perm_middle.trans (.cons _ List.perm_middle)) ?_
    refine cgv .head (fun h2 hE hL=>hy h2 hE k pre (aAu (asl pre) s0) [] A hxk ⟨rfl,rfl⟩ (fun b o h=>by cases h) hJ) (fun r B1 hr1=>?_)
    refine agW (iH rfl rfl rfl) rfl ?_
    refine agb rfl rfl rfl<|pq<|W.ret<|aY ?_
    first
     | (exfalso;omega)
     | (
       rcases hr1 with⟨rfl,B,hJB,hsb⟩ | ⟨rfl,B,hKB,hsb⟩
       ·exact mg (vs:=[.bool true]) ⟨B,S,⟨hO,.inl ⟨rfl,hJB⟩⟩,hsb.app (.skip rfl (.skip rfl .refl))⟩
       ·exact mg (vs:=[.bool false]) ⟨B,S,⟨hO,.inr ⟨rfl,k,pre,hxk,hKB⟩⟩,hsb.app (.skip rfl (.skip rfl .refl))⟩)
  ·exact absurd ‹¬_› (by simp;omega)
 | cons s hs2 ih=>
  intro pre h k rest A S lv hd hpl hm hh hb hb1 hb2 hb3 aBj hb5 hy hx hJ hO
  have hil:pre.length<hs.length:=by
   have:=congrArg List.length hd
   simp at this;omega
  obtain⟨s',QL,hdr⟩:=has hil
  rw[hd]at hdr
  injection hdr with e1 e2
  subst e1
  have af4:=hb4 s (List.mem_of_getElem? QL)
  have hfs:pre.length=0→f0=s:=fun h=>by rw[h,h0]at QL;exact Option.some.inj QL
  obtain⟨N,hN⟩:∃N:Nat,s.hi-s.lo+1=N:=⟨(s.hi-s.lo+1).toNat,by omega⟩
  have hN2:(s.hi-s.lo+1).toNat=N:=by omega
  have aB7:(upz s).length=N:=by simp[upz,hN2]
  have hup:∀j,j<N→(upz s)[j]? =some (s.lo+(j:Int)):=fun j hj=>by
   simp[upz,hN2,List.getElem?_range hj]
  obtain⟨g,hg⟩:∃g:Int→List (List Int),g=fun n=>(allH hs2).map ((pre++[n])++ ·):=⟨_,rfl⟩
  have hgl:∀n,(g n).length=(allH hs2).length:=fun n=>by rw[hg];simp
  have hx2:xs.drop k=(upz s).flatMap g++rest:=by
   rw[hx,allH,List.map_flatMap]
   refine congrArg (· ++rest) ?_
   refine congrArg (fun f=>List.flatMap f (upz s)) (funext fun n=>?_)
   rw[hg,List.map_map]
   exact List.map_congr_left fun y _=>by simp
  have hlen0:(allH (s::hs2)).length=((upz s).flatMap g).length:=by
   simp only[allH,List.length_flatMap,List.length_map,hg]
  have hlen1:∀a:Int,(pre++[a]).length=pre.length+1:=fun a=>by simp
  obtain⟨a,cap,rfl⟩:=hh.dA
  obtain⟨al,cl,rfl⟩:=hO.dA
  obtain⟨bh,aym,ch,Eh,fzh,e3,hbh,hxh,hyh,-⟩:=hh.at QL
  cases e3
  have aCE:ch.extract (aym+pre.length*2) (aym+pre.length*2+2)= #[I s.lo,I s.hi]:=hxh
  clear hxh
  rw[hlen0]
  refine dV.aG awK rfl (by show 6≤64;decide) [(0,.slice al pre.length cl),(1,bI b1),(2,bI b2),(3,bI b3),(4,bI b4),(5,bI b5)] ⟨rfl,rfl,rfl,rfl,rfl,rfl,trivial⟩ ?_
  refine W.seq<|W.region rfl<|agb rfl rfl rfl<|pq<|W.seq<|W.seq<|W.region rfl<|qm rfl rfl rfl ?_
  refine agW (dM rfl rfl) rfl ?_
  refine agX rfl ?_
  refine ag4 rfl ?_
  refine agY rfl ?_
  refine agY rfl ?_
  refine agX rfl ?_
  refine agW (dM rfl rfl) rfl ?_
  refine agW (nD rfl rfl rfl) rfl ?_
  refine pq ?_
  refine W.bC rfl (fun c20=>?_) (fun c20=>?_)
  ·exact absurd c20 (by omega)
  ·refine W.skip<|aA<|W.seq<|W.region rfl ?_
   refine agX rfl ?_
   refine ag4 rfl ?_
   refine agY rfl ?_
   refine agY rfl ?_
   refine agX rfl ?_
   refine qm rfl rfl rfl ?_
   refine agW (dM rfl rfl) rfl ?_
   refine ag3 rfl ?_
   first | refine ag2 rfl ?_ | refine agW (ady rfl rfl) rfl ?_
   refine Ops.new (fun Oj=>?_)
   first | refine Ops.jP ?_ | refine Ops.nY ?_
   refine pq<|W.seq<|W.seq<|W.region rfl<|qm rfl rfl rfl ?_
   refine agW (dM rfl rfl) rfl ?_
   refine agW (nD rfl rfl rfl) rfl ?_
   refine pq ?_
   refine W.bC rfl (fun c47=>?_) (fun c47=>?_)
   ·refine W.region rfl ?_
    refine agW (zi (vs:= #[I s.lo,I s.hi]) rfl rfl (.inl aBj) (Nat.le_of_ble_eq_true rfl) (by rw[hfs (by omega)];rfl)) rfl ?_
    first | refine Ops.jP ?_ | refine Ops.nY ?_
    refine pq<|W.seq<|W.seq<|W.region rfl ?_
    refine agY rfl ?_
    refine agX rfl ?_
    refine agb rfl rfl rfl<|pq<|W.block ?_
    refine W.Js (σ:=Nat) (τ:=ah) (υ:=ah) (fun j A S=>j≤N∧J (k+(((upz s).take j).flatMap g).length) A∧Os dL fH (.slice al pre.length cl) pre S) (fun j _ _=>[(11,I (s.lo+(j:Int))),(10,bI Oj),(0,.slice al pre.length cl),(1,bI b1),(2,bI b2),(3,bI b3),(4,bI b4),(5,bI b5)])
     (fun _ A S=>(Oj,.cells #[I s.lo,I s.hi] eG (0,0))::(A++S)) (fun j _ _=>N-j) 0 A S ⟨Nat.zero_le _,hJ,hO⟩ ⟨lk rfl (by simp),rfl,rfl,rfl,rfl,rfl,rfl,rfl,trivial⟩ .refl ?_
    rintro j A S ⟨hj,hJj,hOj⟩
    refine W.seq<|W.seq<|W.region rfl<|qm rfl rfl rfl ?_
    refine agY rfl ?_
    refine agX rfl ?_
    refine agW (Lr rfl rfl rfl) rfl ?_
    refine pq ?_
    refine W.bC rfl (fun c54=>?_) (fun c54=>?_)
    ·have hjN:j<N:=by omega
     have hpj:=hup j hjN
     have hx3:=VG hx2 hpj
     have hnx:=VF (g:=g) hpj
     refine W.skip<|aA<|W.seq<|W.block<|W.seq ?_
     refine W.DR [] (n:=7) rfl ?_
     refine xq 0 (iQ rfl rfl) rfl ?_
     refine xq 1 (aN rfl rfl) rfl ?_
     refine xq 2 (aN rfl rfl) rfl ?_
     refine ae (i:=3) rfl an rfl rfl (DN (parts:=[⟨_,_⟩]) (cs:= #[I (s.lo+(j:Int))]) rfl rfl (by decide) (by decide) (by kernel_rfl) fun aAY _ _=>⟨.inr Keeps.nil,?_⟩)
     refine ae (i:=4) rfl an rfl rfl (az3 (row:=fH) (l:=pre) (l':=[s.lo+(j:Int)]) rfl rfl rfl hOj (.tail (.tail (.app .all))) (fun h2 _ hl=>Sl.mk (hl aAY _ (.head _)) rfl (Part.all (flat fH [s.lo+(j:Int)]))) (by simp;omega) (by decide) rfl (fun v' A1 A0 hO1 hback=>?_))
     refine⟨.inr Keeps.nil,?_⟩
     refine Any.perm (F':=(A++A1)++((aAY,.cells #[I (s.lo+(j:Int))] dL (0,0))::(Oj,.cells #[I s.lo,I s.hi] eG (0,0))::A0)) ?_ ?_
     ·rw[List.append_assoc]
      exact(List.Perm.append_left A List.perm_middle).trans (List.perm_middle.trans (.cons _ ((List.Perm.append_left A List.perm_middle).trans List.perm_middle)))
     refine ae (i:=5) rfl an rfl rfl (tJ (args:=[_]) rfl rfl rfl .head (fun h' hE hL=>gZ.zh (fi:=[]) (args:=[_]) (ca:=[_,_,_,_,_]) (ih (pre++[s.lo+(j:Int)]) h' _ _ A A1 v' (by rw[hlen1,←List.drop_drop,hd];rfl) (by rw[hlen1];omega) (hm.ext hE) (hh.ext hE) (hE.1 _ _ hb) (hE.1 _ _ hb1) (hE.1 _ _ hb2) (hE.1 _ _ hb3) (hE.1 _ _ aBj) (hE.1 _ _ hb5) (hy.ext hE) (by rw[hx3,hg]) hJj hO1)) (fun v B1 hv=>?_))
     refine⟨.inr Keeps.nil,?_⟩
     obtain⟨B,S2,hGr,hsb⟩:=hv
     obtain⟨r,rfl⟩:=hGr.bool
     obtain⟨S3,hS3,afy⟩:=hback S2 hGr.1
     refine xq 6 (xU rfl rfl) rfl ?_
     refine az ?_
     refine aA ?_
     refine W.cond rfl (fun c63=>?_) (fun c63=>?_)
     ·refine W.seq<|W.region rfl<|agb rfl rfl rfl<|pq<|W.ret<|cZ<|aY<|aY<|cZ ?_
      refine aY ?_
      obtain rfl:=adS ‹(!r)=true›
      refine mg (vs:=[.bool false]) ⟨B,S3,⟨hS3,.inr ?_⟩,?_⟩
      ·rcases hGr.2 with⟨h,_⟩ | h
       ·cases h
       ·exact h
      ·exact aB4 hsb afy rfl rfl
     ·refine W.skip<|dI<|aA<|W.region rfl<|qm rfl rfl rfl ?_
      refine ag1 rfl ?_
      refine agb rfl rfl rfl<|pq ?_
      obtain rfl:=adT ‹(!r)=false›
      have hJ2:J (k+(((upz s).take (j+1)).flatMap g).length) B:=by
       rcases hGr.2 with⟨_,h⟩ | ⟨h,_⟩
       ·rw[hnx,List.length_append,←Nat.add_assoc,hgl];exact h
       ·cases h
      exact⟨rfl,j+1,B,S3,⟨hjN,hJ2,hS3⟩,by omega,⟨lk rfl (show I _=I _ by congr 1;omega),rfl,rfl,rfl,rfl,rfl,rfl,rfl,trivial⟩,aBu hsb afy rfl⟩
    ·obtain rfl:j=N:=by omega
     refine W.exit<|bP<|bP<|gG<|aA<|W.seq<|W.region rfl<|agb rfl rfl rfl<|pq ?_
     refine W.ret ?_
     refine mg (vs:=[.bool true]) ⟨A,S,⟨hOj,.inl ⟨rfl,?_⟩⟩,.skip rfl .refl⟩
     rw[List.take_of_length_le (Nat.le_of_eq aB7)]at hJj
     exact hJj
   ·refine W.skip<|aA<|W.seq<|W.seq<|W.region rfl ?_
    refine agY rfl ?_
    refine agX rfl ?_
    refine agb rfl rfl rfl<|pq<|W.block ?_
    refine W.Js (σ:=Nat) (τ:=ah) (υ:=ah) (fun j A S=>j≤N∧J (k+(((upz s).take j).flatMap g).length) A∧Os dL fH (.slice al pre.length cl) pre S) (fun j _ _=>[(11,I (s.lo+(j:Int))),(10,bI Oj),(0,.slice al pre.length cl),(1,bI b1),(2,bI b2),(3,bI b3),(4,bI b4),(5,bI b5)])
     (fun _ A S=>(Oj,.cells #[I s.lo,I s.hi] eG (0,0))::(A++S)) (fun j _ _=>N-j) 0 A S ⟨Nat.zero_le _,hJ,hO⟩ ⟨lk rfl (by simp),rfl,rfl,rfl,rfl,rfl,rfl,rfl,trivial⟩ .refl ?_
    rintro j A S ⟨hj,hJj,hOj⟩
    refine W.seq<|W.seq<|W.region rfl<|qm rfl rfl rfl ?_
    refine agY rfl ?_
    refine agX rfl ?_
    refine agW (Lr rfl rfl rfl) rfl ?_
    refine pq ?_
    refine W.bC rfl (fun c54=>?_) (fun c54=>?_)
    ·have hjN:j<N:=by omega
     have hpj:=hup j hjN
     have hx3:=VG hx2 hpj
     have hnx:=VF (g:=g) hpj
     refine W.skip<|aA<|W.seq<|W.block<|W.seq ?_
     refine W.DR [] (n:=7) rfl ?_
     refine xq 0 (iQ rfl rfl) rfl ?_
     refine xq 1 (aN rfl rfl) rfl ?_
     refine xq 2 (aN rfl rfl) rfl ?_
     refine ae (i:=3) rfl an rfl rfl (DN (parts:=[⟨_,_⟩]) (cs:= #[I (s.lo+(j:Int))]) rfl rfl (by decide) (by decide) (by kernel_rfl) fun aAY _ _=>⟨.inr Keeps.nil,?_⟩)
     refine ae (i:=4) rfl an rfl rfl (az3 (row:=fH) (l:=pre) (l':=[s.lo+(j:Int)]) rfl rfl rfl hOj (.tail (.tail (.app .all))) (fun h2 _ hl=>Sl.mk (hl aAY _ (.head _)) rfl (Part.all (flat fH [s.lo+(j:Int)]))) (by simp;omega) (by decide) rfl (fun v' A1 A0 hO1 hback=>?_))
     refine⟨.inr Keeps.nil,?_⟩
     refine Any.perm (F':=(A++A1)++((aAY,.cells #[I (s.lo+(j:Int))] dL (0,0))::(Oj,.cells #[I s.lo,I s.hi] eG (0,0))::A0)) ?_ ?_
     ·rw[List.append_assoc]
      exact(List.Perm.append_left A List.perm_middle).trans (List.perm_middle.trans (.cons _ ((List.Perm.append_left A List.perm_middle).trans List.perm_middle)))
     refine ae (i:=5) rfl an rfl rfl (tJ (args:=[_]) rfl rfl rfl .head (fun h' hE hL=>gZ.zh (fi:=[]) (args:=[_]) (ca:=[_,_,_,_,_]) (ih (pre++[s.lo+(j:Int)]) h' _ _ A A1 v' (by rw[hlen1,←List.drop_drop,hd];rfl) (by rw[hlen1];omega) (hm.ext hE) (hh.ext hE) (hE.1 _ _ hb) (hE.1 _ _ hb1) (hE.1 _ _ hb2) (hE.1 _ _ hb3) (hE.1 _ _ aBj) (hE.1 _ _ hb5) (hy.ext hE) (by rw[hx3,hg]) hJj hO1)) (fun v B1 hv=>?_))
     refine⟨.inr Keeps.nil,?_⟩
     obtain⟨B,S2,hGr,hsb⟩:=hv
     obtain⟨r,rfl⟩:=hGr.bool
     obtain⟨S3,hS3,afy⟩:=hback S2 hGr.1
     refine xq 6 (xU rfl rfl) rfl ?_
     refine az ?_
     refine aA ?_
     refine W.cond rfl (fun c63=>?_) (fun c63=>?_)
     ·refine W.seq<|W.region rfl<|agb rfl rfl rfl<|pq<|W.ret<|cZ<|aY<|aY<|cZ ?_
      refine aY ?_
      obtain rfl:=adS ‹(!r)=true›
      refine mg (vs:=[.bool false]) ⟨B,S3,⟨hS3,.inr ?_⟩,?_⟩
      ·rcases hGr.2 with⟨h,_⟩ | h
       ·cases h
       ·exact h
      ·exact aB4 hsb afy rfl rfl
     ·refine W.skip<|dI<|aA<|W.region rfl<|qm rfl rfl rfl ?_
      refine ag1 rfl ?_
      refine agb rfl rfl rfl<|pq ?_
      obtain rfl:=adT ‹(!r)=false›
      have hJ2:J (k+(((upz s).take (j+1)).flatMap g).length) B:=by
       rcases hGr.2 with⟨_,h⟩ | ⟨h,_⟩
       ·rw[hnx,List.length_append,←Nat.add_assoc,hgl];exact h
       ·cases h
      exact⟨rfl,j+1,B,S3,⟨hjN,hJ2,hS3⟩,by omega,⟨lk rfl (show I _=I _ by congr 1;omega),rfl,rfl,rfl,rfl,rfl,rfl,rfl,trivial⟩,aBu hsb afy rfl⟩
    ·obtain rfl:j=N:=by omega
     refine W.exit<|bP<|bP<|gG<|aA<|W.seq<|W.region rfl<|agb rfl rfl rfl<|pq ?_
     refine W.ret ?_
     refine mg (vs:=[.bool true]) ⟨A,S,⟨hOj,.inl ⟨rfl,?_⟩⟩,.skip rfl .refl⟩
     rw[List.take_of_length_le (Nat.le_of_eq aB7)]at hJj
     exact hJj
end Go.aS

/- A boil at work. Conditions: none; over the given program. -/
namespace Go.aS
set_option maxRecDepth 100000
set_option maxHeartbeats 1000000
theorem eiH:EqAt prog dL 1 1:=EqAt.int
theorem ckH:Sr prog dL 1 1:=Sr.int
theorem aAI:V7 prog atI 5 2:=V7.array (n:=5) (w:=1) (K:=1) eiH
theorem aAJ:CkV prog atI 5 2:=CkV.array (n:=5) (w:=1) (K:=1) ckH
instance:EV prog atI 5:=⟨aAI.le (by decide)⟩
instance:KV prog atI 5:=⟨inferInstance,aAJ.le (by decide),_,TD.out,.inr ⟨_,_,rfl⟩⟩
def aAf(s0:Spn)(x:List Int):List Int×Value:=(asl x,aAu (asl x) s0)
def axa(s0:Spn)(hs:List Spn):List (List Int×Value):=(allH hs).map (aAf s0)
theorem aAZ{x y:List Int}(h:x.length=y.length)(e:asl x=asl y):x=y:=by
 unfold asl at e
 exact(List.append_inj e h).1
theorem aA0{α:Type}{l:List α}{k:Nat}{p:α}(h:l.Nodup)(hk:l[k]? =some p):p∉l.take k:=by
 intro hm
 obtain⟨p',hp',hd⟩:=has (List.getElem?_eq_some_iff.1 hk).1
 rw[hk]at hp'
 cases hp'
 rw[←List.take_append_drop k l,hd]at h
 exact(List.nodup_append.1 h).2.2 p hm p (List.mem_cons_self ..) rfl
theorem aBl{s0:Spn}{hs:List Spn}{k:Nat}{p:List Int}(hk:(allH hs)[k]? =some p):asl p∉(((allH hs).take k).map (aAf s0)).map (·.1):=by
 intro hm
 rw[List.map_map]at hm
 obtain⟨q,hq,e⟩:=List.mem_map.1 hm
 have h1:=aw6 (List.mem_of_mem_take hq)
 have h2:=aw6 (List.mem_of_getElem? hk)
 have:=aAZ (by rw[h1,h2]) e
 subst this
 exact aA0 azF hk hq

theorem aAK(main:Side)(h:Hp)(b:Nat)(f0:Spn):dV prog main awM #[bI b,.slice none 0 0,f0.val] h [] (fun v A=>∃b1 b2 b3,v= .func (.func apU) #[] #[bI b1,bI b2,bI b3]∧A=[(b3,.cells #[I f0.lo,I f0.hi] eG (0,0)),(b2,.cells #[.slice none 0 0] azD (0,0)),(b1,.cells #[bI b] awL (0,0))]):=by
 refine dV.aG ax5 rfl (by show 3≤8;decide) [(0,bI b),(1,.slice none 0 0),(2,f0.val)] ⟨rfl,rfl,rfl,trivial⟩ ?_
 refine W.seq<|W.region rfl ?_
 refine Ops.box (fun uU=>?_)
 refine Ops.box (fun wC=>?_)
 refine Ops.box (fun mZ=>?_)
 refine agb rfl rfl rfl<|pq<|W.seq<|W.region rfl ?_
 refine agW (y7 rfl rfl rfl) rfl ?_
 refine agb rfl rfl rfl<|pq<|W.ret ?_
 exact mg ⟨_,_,_,rfl,rfl⟩

theorem aAm(main:Side)(h:Hp)(s0 f0:Spn)(hs:List Spn)(vs vr vm vh:Value)(b β b1 b2 b3:Nat)(E1 E2 E3:TypeId)(z1 z2 z3:Nat×Nat)(h5:hs.length≤5)(hb4:∀s∈hs,0≤s.lo∧s.lo≤s.hi∧s.hi≤4)(h0:hs[0]? =some f0)(hs0:0≤s0.lo∧s0.lo≤s0.hi∧s0.hi≤40)
  (hm:Sl h Spn.row vs [s0]) (hh:Sl h Spn.row vh hs) (hb:h b=some (ay0 vs vr vm vh β)) (hb1:h b1=some (.cells #[bI b] E1 z1)) (hb2:h b2=some (.cells #[.slice none 0 0] E2 z2)) (hb3:h b3=some (.cells #[I f0.lo,I f0.hi] E3 z3)):
  Me prog main (.func (.func apU) #[] #[bI b1,bI b2,bI b3]) (aBD s0) (allH hs) h:=by
 intro h' hE0 yv hy1 J K hy A hJ
 refine gZ.zh (f:=apU) (fi:=[]) (args:=[_]) (ca:=[bI b1,bI b2,bI b3]) ?_
 refine dV.aG axd rfl (by show 4≤9;decide) [(0,yv),(1,bI b1),(2,bI b2),(3,bI b3)] ⟨rfl,rfl,rfl,rfl,trivial⟩ ?_
 refine W.seq<|W.region rfl ?_
 refine Ops.box (fun wC=>?_) rfl rfl (OO hy1)
 refine pq<|W.seq<|W.region rfl ?_
 refine Ops.new (fun mZ=>?_)
 refine pq<|W.seq<|W.region rfl ?_
 refine agW (y7 rfl rfl rfl) rfl ?_
 refine Ops.yG ?_
 refine pq<|W.region rfl ?_
 refine agX rfl ?_
 refine Ops.perm (F':=A++[(mZ,.cells #[aAW b1 b2 wC b3 mZ] 48 (0,0)),(wC,.cells #[yv] 140 (0,0))]) (List.perm_append_comm (l₂:=[_,_])) ?_
 refine cgv .head (fun h2 hE hL=>gZ.zh (fi:=[]) (args:=[_]) (ca:=[_,_,_,_,_]) (List.append_nil A▸aBi _ s0 f0 hs vs vr vm vh yv b β b1 b2 wC b3 mZ _ _ _ _ _ _ _ _ _ _ h5 hb4 h0 hs0 hy1 (allH hs) J K hs [] h2 0 [] A [] (.slice none 0 0) rfl (Nat.zero_le _) (hm.ext (hE0.trans hE)) (hh.ext (hE0.trans hE)) ((hE0.trans hE).1 _ _ hb) ((hE0.trans hE).1 _ _ hb1) ((hE0.trans hE).1 _ _ hb2) (hL _ _ (.tail _ (.head _))) ((hE0.trans hE).1 _ _ hb3) (hL _ _ (.head _)) (hy.ext hE) (by simp) hJ (.nil .nil))) (fun v B1 hv=>?_)
 obtain⟨B,S',⟨hO,hJK⟩,hsb⟩:=hv
 refine Ops.nil ?_
 have hs2:Sb B (B1++[(mZ,.cells #[aAW b1 b2 wC b3 mZ] 48 (0,0)),(wC,.cells #[yv] 140 (0,0))]):=
  Sb.trans (Sb.right .refl hO.shut) (hsb.right (.cons rfl (.cons rfl .nil)))
 refine mg (vs:=[]) ?_
 rcases hJK with⟨_,h⟩ | ⟨_,k,x,hx,hK⟩
 ·refine .inl ⟨B,?_,hs2⟩
  rw[Nat.zero_add]at h;exact h
 ·exact .inr ⟨k,x,_,[],B,hx,⟨rfl,rfl⟩,hK,by rw[List.append_nil];exact hs2⟩
end Go.aS
