/- The room that is needed, as the program has it. Conditions: none; over the given program. (And 6 texts more.) -/
import Derived.Test.YtkkdgffaohidnaaGreatDoorSyrupKnownQ1
import Derived.Test.YtkkdgffaohidnaaGreatDoorR13
import Derived.Test.YtkkdgffaohidnaaGreatDoorR10
set_option linter.unusedVariables false
set_option linter.unusedSimpArgs false
set_option linter.unusedSectionVars false

/- The room that is needed, as the program has it. Conditions: none; over the given program. -/
namespace Go.aS
set_option maxRecDepth 100000
set_option maxHeartbeats 4000000
theorem avw(main:Side)(h:Hp)(ps:List Pn)(ls:List Lt)(vp vl:Value)(hp:Sl h Pn.row vp ps)(hl:Sl h Lt.row vl ls):Pu prog main atD #[vp,vl] h (.tuple #[I (asO ps ls).1,I (asO ps ls).2]):=by
 obtain⟨a,cap,rfl⟩:=hp.dA
 obtain⟨a2,cap2,rfl⟩:=hl.dA
 refine dV.aG aus rfl (by show 2≤69;decide) [(0,.slice a ps.length cap),(1,.slice a2 ls.length cap2)] ⟨rfl,rfl,trivial⟩ ?_
 have hbe:kU ps []=nV ps:=by unfold kU;split <;>simp_all
 refine W.seq<|W.region rfl ?_
 refine Ops.new (fun wC=>?_)
 refine Ops.new (fun mZ=>?_)
 refine pq<|W.seq<|W.region rfl<|qm rfl rfl rfl ?_
 refine cp (fun h' hE hL=>Am _ h' ps _ [] _ (hp.ext hE) .nil (by simp)) ?_
 refine qm rfl rfl rfl<|oq (bD rfl rfl rfl) rfl wn rfl rfl<|oq (bD rfl rfl rfl) rfl wn rfl rfl ?_
 have hcs:∃cs:Array Value,(if kU ps []=0 then xJ (.slice a ps.length cap) 0 else LZ)= .agg cs∧cs.size=2∧ones cs.toList=true:=by
  split <;>exact⟨_,rfl,rfl,rfl⟩
 obtain⟨cs,hcs,hcs2,hcs1⟩:=hcs
 rw[hcs,hbe]
 refine Ops.new (fun yC=>?_)
 refine Ops.jP (n:=2) (vs:=cs) ?_ (hy:=by rfl) (hn:=hcs2) (h1:=hcs1)
 refine agb rfl rfl rfl<|pq<|W.seq<|W.seq<|W.region rfl<|qm rfl rfl rfl ?_
 refine agW (nG rfl rfl rfl) rfl ?_
 refine pq ?_
 refine W.bC rfl (fun c21=>?_) (fun c21=>?_)
 ·refine W.seq<|W.region rfl<|qm rfl rfl rfl ?_
  refine Ops.yG ?_
  refine Ops.yG ?_
  refine pq<|W.ret<|aY ?_
  have e:asO ps ls=(0,nV ps):=by rw[asO,if_pos (by assumption)]
  rw[e]
  exact QJ (hv:=rSc (rSc zJ)) ⟨rfl,by repeat(first | exact Shut.nil | refine Shut.cons rfl ?_)⟩
 ·have h0:nV ps=0:=by simpa using c21
  have hok:=iP.yB h0
  have Du:=hok.len
  rw[hbe,if_pos h0]at hcs
  cases hcs
  refine W.skip<|aA<|W.seq<|W.seq<|W.region rfl<|qm rfl rfl rfl ?_
  refine cp (fun h' hE hL=>Ov _ h' ls _ (hl.ext hE)) ?_
  refine agb rfl rfl rfl<|pq<|W.seq<|W.region rfl<|qm rfl rfl rfl ?_
  refine agW (nG rfl rfl rfl) rfl ?_
  refine pq ?_
  refine W.bC rfl (fun c26=>?_) (fun c26=>?_)
  ·refine W.seq<|W.region rfl<|qm rfl rfl rfl ?_
   refine Ops.yG ?_
   refine Ops.yG ?_
   refine pq<|W.ret<|aY ?_
   have e:asO ps ls=(0,Ig ls):=by rw[asO,if_neg (by simpa using h0),if_pos (by assumption)]
   rw[e]
   exact QJ (hv:=rSc (rSc zJ)) ⟨rfl,by repeat(first | exact Shut.nil | refine Shut.cons rfl ?_)⟩
  ·have h1:Ig ls=0:=by simpa using c26
   have hlo:=Au.yB h1
   have hl4:=hlo.len
   obtain⟨hn1,hn2,hn3⟩:=atC (ps:=ps) Du hlo.lot
   have hdd:=atg (ps:=ps) hlo.lot
   have e:asO ps ls=(((atl ps ls:Nat):Int),0):=by rw[asO,if_neg (by simpa using h0),if_neg (by simpa using h1)]
   refine W.skip<|aA<|W.seq<|W.region rfl ?_
   refine Ops.new (fun Uw=>?_)
   refine Ops.yG ?_
   refine pq<|W.seq<|W.seq<|W.region rfl<|qm rfl rfl rfl ?_
   refine agW (dM rfl rfl) rfl ?_
   refine qm rfl rfl rfl<|pq<|W.block ?_
   refine W.loop (σ:=Nat) (fun k=>k≤ls.length) (fun k=>[(30,I k),(29,I ls.length),(28,.slice a2 ls.length cap2),(9,bI Uw),(6,bI yC),(5,bI mZ),(4,bI wC),(0,.slice a ps.length cap),(1,.slice a2 ls.length cap2)]) (fun k=>[(Uw,.cells #[I (asD ps (ls.take k))] dL (0,0)),(yC,.cells #[.slice a ps.length cap,U8 0] bG (0,0)),(mZ,.cells #[I 0] Uf (0,0)),(wC,.cells #[I 0] dL (0,0))]) (fun k=>ls.length-k) 0 (Nat.zero_le _) ⟨rfl,rfl,rfl,rfl,rfl,rfl,rfl,rfl,rfl,trivial⟩ .refl ?_
   rintro k hk
   refine W.seq<|W.region rfl ?_
   refine agW (fO rfl rfl rfl) rfl ?_
   refine pq<|W.seq ?_
   refine W.bC rfl (fun c31=>?_) (fun c31=>?_)
   ·have hkl:k<ls.length:=by omega
    obtain⟨l,hlt,-⟩:=has hkl
    have hlk:=hlo.lot l (List.mem_of_getElem? hlt)
    obtain⟨bl,ol,cl,El,fl,hvl,hbl,hxl,hyl,-⟩:=hl.at hlt
    cases hvl
    have ayd:cl.extract (ol+k*2) (ol+k*2+2)= #[I l.qu,I l.po]:=hxl
    clear hxl
    have hacc:=atg (ps:=ps) (ls:=ls.take k) (fun l hl=>hlo.lot l (List.mem_of_mem_take hl))
    rw[List.length_take]at hacc
    have hdt:=auB (ps:=ps) hlt
    refine W.skip<|aA<|W.seq<|W.block<|W.seq<|W.region rfl ?_
    refine ag3 rfl ?_
    refine ag2 rfl ?_
    refine Ops.new (fun KY=>?_)
    refine Ops.jP (vs:= #[I l.qu,I l.po]) ?_
    refine pq<|W.seq<|W.region rfl ?_
    refine ag2 rfl ?_
    refine agY rfl ?_
    refine agX rfl ?_
    refine cp (fun h' hE hL=>Si _ h' ps _ 0 l.qu (hp.ext hE) Du) ?_
    refine agW (xU rfl rfl) rfl ?_
    refine pq ?_
    refine W.cond rfl (fun c38=>?_) (fun c38=>?_)
    ·refine W.region rfl ?_
     refine agX rfl ?_
     refine agY rfl ?_
     refine agX rfl ?_
     refine ag1 rfl ?_
     refine Ops.yG ?_
     refine Ops.nil<|dI<|aA<|W.region rfl ?_
     refine ag1 rfl ?_
     refine qm rfl rfl rfl<|pq ?_
     exact⟨rfl,k+1,hkl,by omega,⟨rfl,rfl,rfl,rfl,rfl,rfl,rfl,rfl,rfl,trivial⟩,.skip rfl (.eq (by rw[hdt,if_neg (by simp_all)];rfl))⟩
    ·refine W.skip<|dI<|aA<|W.region rfl ?_
     refine ag1 rfl ?_
     refine qm rfl rfl rfl<|pq ?_
     exact⟨rfl,k+1,hkl,by omega,⟨rfl,rfl,rfl,rfl,rfl,rfl,rfl,rfl,rfl,trivial⟩,.skip rfl (.eq (by rw[hdt,if_pos (by simp_all),Int.add_zero]))⟩
   ·obtain rfl:k=ls.length:=by omega
    rw[List.take_length]
    refine W.exit<|bP<|bP<|gG<|aA<|W.seq<|W.seq<|W.region rfl ?_
    refine agX rfl ?_
    refine ag1 rfl ?_
    refine qm rfl rfl rfl<|pq<|W.block ?_
    refine W.awj (σ:=Nat×List Nat) (fun t=>auI t.2) (fun t=>(t.1:Int)≤asD ps ls+1∧∀j,j<t.1→ath ps ls j=false) (fun t=>[(46,I t.1),(45,I (asD ps ls+1)),(9,bI Uw),(6,bI yC),(5,bI mZ),(4,bI wC),(0,.slice a ps.length cap),(1,.slice a2 ls.length cap2)]) (fun t=>[(Uw,.cells #[I (asD ps ls)] dL (0,0)),(yC,.cells #[.slice a ps.length cap,U8 0] bG (0,0)),(mZ,.cells #[I 0] Uf (0,0)),(wC,.cells #[I 0] dL (0,0))]++as3 t.2) (fun t=>(asD ps ls).toNat+1-t.1) (0,[]) ⟨by dsimp only;omega,fun j hj=>absurd hj (Nat.not_lt_zero _)⟩ ⟨rfl,rfl,rfl,rfl,rfl,rfl,rfl,rfl,trivial⟩ .refl ?_
    rintro⟨n,mk⟩ ⟨hn,hnj⟩
    dsimp only at*
    refine W.seq<|W.region rfl ?_
    refine agW (fO rfl rfl rfl) rfl ?_
    refine pq<|W.seq ?_
    refine W.bC rfl (fun c47=>?_) (fun c47=>?_)
    ·have hnd:(n:Int)≤asD ps ls:=by omega
     have hro:=auR (m:=ps.length) (n:=n) (by omega)
     have hL4:∀s∈yS ps ls (List.replicate ps.length (n:Int)),(kC s).length=4:=fun s hs=>Qw (by have:=Az hs;omega)
     refine W.skip<|aA<|W.seq<|W.block<|W.seq<|W.region rfl<|qm rfl rfl rfl ?_
     refine Ops.new (fun Yf=>?_)
     refine Ops.yG ?_
     refine pq<|W.seq ?_
     refine W.mono (Q:=(fun e ρ' ds' F'=>e= .normal∧ds'=auI mk∧∃βx X5 vr S,Os dL fH vr (List.replicate ps.length (n:Int)) S∧Sub [(13,bI X5),(12,bI Yf),(46,I n),(45,I (asD ps ls+1)),(9,bI Uw),(6,bI yC),(5,bI mZ),(4,bI wC),(0,.slice a ps.length cap),(1,.slice a2 ls.length cap2)] ρ'∧
       Sb ((X5,.cells #[bI βx] fM (0,0))::(βx,.cells #[.slice a ps.length cap,U8 0,.slice a2 ls.length cap2,vr] xE (0,0))::(S++((Yf,.cells #[I n] dL (0,0))::([(Uw,.cells #[I (asD ps ls)] dL (0,0)),(yC,.cells #[.slice a ps.length cap,U8 0] bG (0,0)),(mZ,.cells #[I 0] Uf (0,0)),(wC,.cells #[I 0] dL (0,0))]++as3 mk)))) F')) ?_ ?_
     ·refine W.rE (n:=11) rfl ?_
      first | refine xq 0 (Bf rfl rfl) rfl ?_ | refine xq 0 (zi rfl rfl) rfl ?_
      refine xq 1 (aN rfl rfl) rfl ?_
      refine xq 2 (iQ rfl rfl) rfl ?_
      refine xq 4 (aN rfl rfl) rfl ?_
      refine xq 5 (dM rfl rfl) rfl ?_
      refine Any.WB (i:=3) (j:=9) (by kernel_rfl) (aU rfl) (aU rfl) an an rfl rfl rfl rfl ?_ ?_
      ·refine DN (parts:=[⟨_,_⟩]) (cs:= #[I n]) rfl rfl (by decide) (by decide) (by kernel_rfl) fun afi _ _=>⟨.inr (by repeat(first | exact fun _ h=>h | apply Keeps.cons | apply Keeps.app)),?_⟩
       refine Any.WB (i:=6) (j:=9) (by kernel_rfl) (aU rfl) (aU rfl) an an rfl rfl rfl rfl ?_ ?_
       ·refine QZ (args:=[_,_]) (A:=[]) rfl rfl (Seg.head (A:=[])) (fun h' hE hL=>atW _ h' n _ ps.length (Sl.mk (hL afi _ (.head _)) rfl (Part.all [I n])) Du) (fun vr A' hv=>?_)
        obtain⟨ar,cr,rfl⟩:=hv.dA
        refine⟨.inr (by repeat(first | exact fun _ h=>h | apply Keeps.cons | apply Keeps.app)),?_⟩
        refine xq 7 (eH rfl rfl rfl) rfl ?_ (hS:=(by repeat(first | exact fun _ h=>h | apply Keeps.cons | apply Keeps.app)))
        refine Any.WB (i:=8) (j:=9) (by kernel_rfl) (aU rfl) (aU rfl) an an rfl rfl rfl rfl ?_ ?_
        ·refine abb rfl rfl (fun βx _ _=>⟨.inr (by repeat(first | exact fun _ h=>h | apply Keeps.cons | apply Keeps.app)),?_⟩)
         refine ae (i:=9) rfl an rfl rfl (wJ rfl (fun X5 _ _=>⟨.inr (by repeat(first | exact fun _ h=>h | apply Keeps.cons | apply Keeps.app)),?_⟩))
         refine ae (i:=10) rfl an rfl rfl (eS rfl rfl rfl ?_)
         refine⟨.inl (by kernel_rfl),?_⟩
         refine az ?_
         refine⟨rfl,rfl,βx,X5,_,A',hv,⟨rfl,rfl,rfl,rfl,rfl,rfl,rfl,rfl,rfl,rfl,trivial⟩,?_⟩
         exact .cons (.cons (.app .refl (.skip rfl .refl)))
        ·refine wJ rfl (fun X5 _ _=>⟨.inr (by repeat(first | exact fun _ h=>h | apply Keeps.cons | apply Keeps.app)),?_⟩)
         refine ae (i:=8) rfl an rfl rfl (abb rfl rfl (fun βx _ _=>⟨.inr (by repeat(first | exact fun _ h=>h | apply Keeps.cons | apply Keeps.app)),?_⟩))
         refine ae (i:=10) rfl an rfl rfl (eS rfl rfl rfl ?_)
         refine⟨.inl (by kernel_rfl),?_⟩
         refine az ?_
         refine⟨rfl,rfl,βx,X5,_,A',hv,⟨rfl,rfl,rfl,rfl,rfl,rfl,rfl,rfl,rfl,rfl,trivial⟩,?_⟩
         refine Sb.trans ?_ (.dF (.swap _ _ _))
         exact .cons (.cons (.app .refl (.skip rfl .refl)))
       ·refine wJ rfl (fun X5 _ _=>⟨.inr (by repeat(first | exact fun _ h=>h | apply Keeps.cons | apply Keeps.app)),?_⟩)
        refine ae (i:=6) rfl an rfl rfl (QZ (args:=[_,_]) (A:=[]) rfl rfl (Seg.head (A:=[])) (fun h' hE hL=>atW _ h' n _ ps.length (Sl.mk (hL afi _ (.tail _ (.head _))) rfl (Part.all [I n])) Du) (fun vr A' hv=>?_))
        obtain⟨ar,cr,rfl⟩:=hv.dA
        refine⟨.inr (by repeat(first | exact fun _ h=>h | apply Keeps.cons | apply Keeps.app)),?_⟩
        refine xq 7 (eH rfl rfl rfl) rfl ?_ (hS:=(by repeat(first | exact fun _ h=>h | apply Keeps.cons | apply Keeps.app)))
        refine ae (i:=8) rfl an rfl rfl (abb rfl rfl (fun βx _ _=>⟨.inr (by repeat(first | exact fun _ h=>h | apply Keeps.cons | apply Keeps.app)),?_⟩))
        refine ae (i:=10) rfl an rfl rfl (eS rfl rfl rfl ?_)
        refine⟨.inl (by kernel_rfl),?_⟩
        refine az ?_
        refine⟨rfl,rfl,βx,X5,_,A',hv,⟨rfl,rfl,rfl,rfl,rfl,rfl,rfl,rfl,rfl,rfl,trivial⟩,?_⟩
        refine Sb.trans ?_ (.dF (.cons _ List.perm_middle.symm))
        refine Sb.trans ?_ (.dF (.swap _ _ _))
        exact .cons (.cons (.app .refl (.skip rfl .refl)))
      ·refine wJ rfl (fun X5 _ _=>⟨.inr (by repeat(first | exact fun _ h=>h | apply Keeps.cons | apply Keeps.app)),?_⟩)
       refine ae (i:=3) rfl an rfl rfl (DN (parts:=[⟨_,_⟩]) (cs:= #[I n]) rfl rfl (by decide) (by decide) (by kernel_rfl) fun afi _ _=>⟨.inr (by repeat(first | exact fun _ h=>h | apply Keeps.cons | apply Keeps.app)),?_⟩)
       refine ae (i:=6) rfl an rfl rfl (QZ (args:=[_,_]) (A:=[]) rfl rfl (Seg.head (A:=[])) (fun h' hE hL=>atW _ h' n _ ps.length (Sl.mk (hL afi _ (.head _)) rfl (Part.all [I n])) Du) (fun vr A' hv=>?_))
       obtain⟨ar,cr,rfl⟩:=hv.dA
       refine⟨.inr (by repeat(first | exact fun _ h=>h | apply Keeps.cons | apply Keeps.app)),?_⟩
       refine xq 7 (eH rfl rfl rfl) rfl ?_ (hS:=(by repeat(first | exact fun _ h=>h | apply Keeps.cons | apply Keeps.app)))
       refine ae (i:=8) rfl an rfl rfl (abb rfl rfl (fun βx _ _=>⟨.inr (by repeat(first | exact fun _ h=>h | apply Keeps.cons | apply Keeps.app)),?_⟩))
       refine ae (i:=10) rfl an rfl rfl (eS rfl rfl rfl ?_)
       refine⟨.inl (by kernel_rfl),?_⟩
       refine az ?_
       refine⟨rfl,rfl,βx,X5,_,A',hv,⟨rfl,rfl,rfl,rfl,rfl,rfl,rfl,rfl,rfl,rfl,trivial⟩,?_⟩
       refine Sb.trans ?_ (.dF (.cons _ (.append_left _ (.swap _ _ _))))
       refine Sb.trans ?_ (.dF (.cons _ List.perm_middle.symm))
       refine Sb.trans ?_ (.dF (.swap _ _ _))
       exact .cons (.cons (.app .refl (.skip rfl .refl)))
     rintro e9 ρ9 ds9 F9 ⟨rfl,rfl,βx,X5,vr,S,hS,hE9,akw⟩
     obtain⟨o,hrm,axC⟩:=aau hS
     rw[List.length_replicate]at hrm
     obtain⟨ar,cr,rfl⟩:=hrm.dA
     refine aA (W.env hE9 (W.sb (F':=([(X5,.cells #[bI βx] fM (0,0)),(Yf,.cells #[I n] dL (0,0)),(Uw,.cells #[I (asD ps ls)] dL (0,0)),(mZ,.cells #[I 0] Uf (0,0)),(wC,.cells #[I 0] dL (0,0))]++Iu o (List.replicate ps.length (n:Int)))++((βx,.cells #[.slice a ps.length cap,U8 0,.slice a2 ls.length cap2,.slice ar ps.length cr] xE (0,0))::(yC,.cells #[.slice a ps.length cap,U8 0] bG (0,0))::as3 mk)) (Sb.trans ?_ akw) ?_))
     ·refine Sb.trans ?_ (.cons (.cons (axC.app .refl)))
      refine .dF (agQ fun y=>?_)
      simp only[List.count_append,List.count_cons,List.count_nil];omega
     refine W.seq<|W.region rfl ?_
     refine agX rfl ?_
     refine c0 (fun h' hE hL=>ab7 _ h' βx) (fun v A' hv=>?_)
     obtain⟨b1,rfl,rfl⟩:=hv
     refine pq<|W.block ?_
     refine W.perm (F':=([(X5,.cells #[bI βx] fM (0,0)),(Yf,.cells #[I n] dL (0,0)),(Uw,.cells #[I (asD ps ls)] dL (0,0)),(mZ,.cells #[I 0] Uf (0,0)),(wC,.cells #[I 0] dL (0,0))]++Iu o (List.replicate ps.length (n:Int)))++((b1,.cells #[bI βx] fM (0,0))::(βx,.cells #[.slice a ps.length cap,U8 0,.slice a2 ls.length cap2,.slice ar ps.length cr] xE (0,0))::(yC,.cells #[.slice a ps.length cap,U8 0] bG (0,0))::as3 mk)) (agQ fun y=>by simp only[List.count_append,List.count_cons,List.count_nil];omega) ?_
     refine W.rangeS (Val:=ab6) (xs:=yS ps ls (List.replicate ps.length (n:Int))) (Iu o (List.replicate ps.length (n:Int))) rfl rfl rfl (fun k A=>(∀s∈(yS ps ls (List.replicate ps.length (n:Int))).take k,Ba ls s≠asD ps ls)∧A=[(X5,.cells #[bI βx] fM (0,0)),(Yf,.cells #[I n] dL (0,0)),(Uw,.cells #[I (asD ps ls)] dL (0,0)),(mZ,.cells #[I 0] Uf (0,0)),(wC,.cells #[I 0] dL (0,0))]) (fun _ _ e A=>e= .ret∧ath ps ls n=true∧A=[(mZ,.cells #[I 0] Uf (0,0)),(wC,.cells #[I n] dL (0,0))]) .head ⟨by simp,rfl⟩
      (fun h' hE hL=>VK _ h' ps ls _ _ _ _ o βx b1 _ _ _ _ hok hlo hro hrm (hp.ext hE) (hl.ext hE) (hL βx _ (.tail _ (.head _))) (hL b1 _ (.head _))) ?_ ?_
     ·rintro k p v S A1 hpk ⟨rfl,rfl⟩ ⟨hno,rfl⟩ l1 h1 hE1 hL1 hS1
      have hpm:=List.mem_of_getElem? hpk
      have agk:=hL4 p hpm
      have hsz:(uV (kC p)).size=4:=by rw[qj,agk]
      have hon:ones (uV (kC p)).toList=true:=Qv
      have hlp:Ba ls (kC p)=Ba ls p:=UA (Az hpm)
      refine W.region rfl ?_
      refine Ops.new (fun aht=>?_)
      first | refine Ops.jP ?_ | refine Ops.nY ?_
      refine Ops.nil ?_
      refine⟨rfl,rfl,fun h2 hE2 hL2=>?_⟩
      intro hS2
      have hbx:=hL2 βx _ (.tail _ (.head _))
      refine W.block<|W.seq ?_
      refine W.avQ (n:=5) rfl ?_
      refine xq 0 (iQ rfl rfl) rfl ?_
      first | refine xq 1 (Bf rfl rfl) rfl ?_ | refine xq 1 (zi rfl rfl) rfl ?_
      refine xq 3 (iQ rfl rfl) rfl ?_
      refine Va (i:=2) (fun h' hE hL=>VL _ h' ls (kC p) _ _ _ βx _ _ hlo agk (hl.ext (hE2.trans hE)) (hE.1 _ _ hbx)) ?_ (hS:=.inr (Keeps.one (.head _) (Keeps.one (.tail _ (.head _)) (Keeps.one (.tail _ (.tail _ (.head _))) (Keeps.one (.tail _ (.tail _ (.tail _ (.head _)))) Keeps.nil)))))
      rw[hlp]
      refine xq 4 (nD rfl rfl rfl) rfl ?_
      refine az ?_
      refine aA ?_
      refine W.bC rfl (fun c65=>?_) (fun c65=>?_)
      ·refine W.seq<|W.region rfl ?_
       refine agX rfl ?_
       refine Ops.yG ?_
       refine Ops.yG ?_
       refine pq<|W.ret<|cZ ?_
       have hc:ath ps ls n=true:=by rw[ath,List.any_eq_true];exact⟨p,hpm,decide_eq_true (by omega)⟩
       exact⟨rfl,.inr ⟨rfl,_,⟨rfl,hc,rfl⟩,.skip rfl (.skip rfl (.skip rfl (.skip rfl .refl)))⟩⟩
      ·refine W.skip<|dI ?_
       refine⟨rfl,.inl ⟨rfl,_,⟨fun s hs=>?_,rfl⟩,.skip rfl .refl⟩⟩
       rw[List.take_add_one,hpk]at hs
       rcases List.mem_append.1 hs with hs | hs
       ·exact hno s hs
       ·simp only[Option.toList_some,List.mem_singleton]at hs
        rw[hs];omega
     ·rintro e2 A2 (⟨rfl,hno,rfl⟩ | ⟨k,p,v,S2,B,hpk,⟨rfl,rfl⟩,⟨rfl,hcan,rfl⟩,rfl⟩) d
      ·refine dI<|dI<|aA<|W.region rfl ?_
       refine ag1 rfl ?_
       refine qm rfl rfl rfl<|pq ?_
       have hc:ath ps ls n=false:=by
        rw[←Bool.not_eq_true,ath,List.any_eq_true]
        rintro⟨s,h2,h3⟩
        rw[List.take_length]at hno
        exact hno s h2 (of_decide_eq_true h3)
       refine⟨(n+1,d::mk),rfl,⟨by dsimp only;omega,fun j hj=>?_⟩,by dsimp only;omega,⟨lk rfl (show I _=I _ by congr 1),rfl,rfl,rfl,rfl,rfl,rfl,rfl,trivial⟩,?_⟩
       ·rcases Nat.lt_or_ge j n with h | h
        ·exact hnj j h
        ·obtain rfl:j=n:=by omega
         exact hc
       ·dsimp only
        show Sb ([(Uw,.cells #[I (asD ps ls)] dL (0,0)),(yC,.cells #[.slice a ps.length cap,U8 0] bG (0,0)),(mZ,.cells #[I 0] Uf (0,0)),(wC,.cells #[I 0] dL (0,0))]++((d,.deferred (some []))::as3 mk)) _
        have hrS:Shut (Iu o (List.replicate ps.length (n:Int))):=by unfold Iu;split;exact .nil;exact .cons rfl .nil
        refine Sb.trans (B:=(d,.deferred (some []))::(([(Uw,.cells #[I (asD ps ls)] dL (0,0)),(mZ,.cells #[I 0] Uf (0,0)),(wC,.cells #[I 0] dL (0,0))]++[])++((yC,.cells #[.slice a ps.length cap,U8 0] bG (0,0))::as3 mk))) (.dF (agQ fun y=>by simp only[List.count_append,List.count_cons,List.count_nil];omega)) ?_
        exact .cons (.app (.app (.skip rfl (.skip rfl .refl)) (.nil hrS)) (.skip rfl (.skip rfl .refl)))
      ·refine cZ<|cZ<|aY<|aY<|cZ<|aY ?_
       first
       | exact absurd (auk Du hlo.lot) (by rw[hnj _ (by omega)];simp)
       | (
         refine lvm (hl:=At.head) ?_
         have e9:∀(X M:ah) (x0 x1 x2 x3:Nat×Obj),x0::(X++(x1::x2::x3::M))=(x0::(X++[x1,x2,x3]))++M:=fun X M x0 x1 x2 x3=>by simp
         rw[e9]
         refine avV ?_
         simp only[List.append_assoc,List.cons_append,List.nil_append,List.append_nil]
         rw[e,aum Du hlo.lot hcan hnj]
         exact QJ (hv:=rSc (rSc zJ)) ⟨rfl,.cons rfl (.cons rfl (.cons rfl ((show Shut (Iu o (List.replicate ps.length (n:Int))) by unfold Iu;split;exact .nil;exact .cons rfl .nil).app (.cons rfl (.cons rfl (.cons rfl (att _)))))))⟩)
    ·refine W.exit<|bP<|bP<|gG<|aA<|W.seq<|W.region rfl ?_
     refine agX rfl ?_
     refine Ops.yG ?_
     refine Ops.yG ?_
     refine pq<|W.ret ?_
     first
     | exact absurd (auk Du hlo.lot) (by rw[hnj _ (by omega)];simp)
     | (
       refine lvm (hl:=At.head) ?_
       have e9:∀(X M:ah) (x0 x1 x2 x3:Nat×Obj),x0::(X++(x1::x2::x3::M))=(x0::(X++[x1,x2,x3]))++M:=fun X M x0 x1 x2 x3=>by simp
       rw[e9]
       refine avV ?_
       simp only[List.append_assoc,List.cons_append,List.nil_append,List.append_nil]
       rw[e,aum Du hlo.lot hcan hnj]
       exact QJ (hv:=rSc (rSc zJ)) ⟨rfl,.cons rfl (.cons rfl (.cons rfl ((show Shut (Iu o (List.replicate ps.length (n:Int))) by unfold Iu;split;exact .nil;exact .cons rfl .nil).app (.cons rfl (.cons rfl (.cons rfl (att _)))))))⟩)
end Go.aS

/- The same pans under other numbers. Conditions: none; no program in sight. -/
namespace Go.aS
set_option linter.unusedVariables false
structure Ren(ps os:List Pn)(f g:Nat→Nat):Prop where
 len:os.length=ps.length
 fl:∀i,i<ps.length→f i<ps.length
 gl:∀i,i<ps.length→g i<ps.length
 gf:∀i,i<ps.length→g (f i)=i
 fg:∀i,i<ps.length→f (g i)=i
 gets:∀i,i<ps.length→os[f i]? =ps[i]?
variable{ps os:List Pn}{f g:Nat→Nat}
theorem Ren.symm(h:Ren ps os f g):Ren os ps g f:=
 ⟨h.len.symm,fun i hi=>by rw[h.len]at hi⊢;exact h.gl i hi,fun i hi=>by rw[h.len]at hi⊢;exact h.fl i hi,fun i hi=>h.fg i (h.len▸hi),fun i hi=>h.gf i (h.len▸hi),fun i hi=>by
  rw[h.len]at hi
  rw[←h.gets (g i) (h.gl i hi),h.fg i hi]⟩
theorem Ren.tk(h:Ren ps os f g){q:Int}{i:Nat}(hi:i<ps.length):P9 os q (f i)=P9 ps q i:=by
 unfold P9;rw[h.gets i hi]
theorem Ren.gy(h:Ren ps os f g){q i:Nat}(hi:i<ps.length):gy os (f i) q=gy ps i q:=by
 unfold Go.aS.gy;rw[h.gets i hi]
theorem Ren.mem(h:Ren ps os f g){p:Pn}(hp:p∈ps):p∈os:=by
 obtain⟨i,hi⟩:=List.getElem?_of_mem hp
 have hl:=(List.getElem?_eq_some_iff.1 hi).1
 exact List.mem_of_getElem? ((h.gets i hl).trans hi)
theorem Ren.trc(h:Ren ps os f g){q:Int}:dY os q=dY ps q:=by
 rw[Bool.eq_iff_iff,dY,dY,List.all_eq_true,List.all_eq_true]
 exact⟨fun h1 p hp=>h1 p (h.mem hp),fun h1 p hp=>h1 p (h.symm.mem hp)⟩
theorem Ren.axh(h:Ren ps os f g)(h4:ps.length≤4){c c':Nat}(hc:∀i,i<ps.length→c'.testBit (f i)=c.testBit i){q o:Nat}(hs:stp (dO ps c) q o):stp (dO os c') q o:=by
 rw[ai2 h4]at hs
 rw[ai2 (by rw[h.len];exact h4)]
 obtain⟨i,x,hx,h1,h2,h3⟩:=hs
 have hl:=(List.getElem?_eq_some_iff.1 hx).1
 exact⟨f i,x,(h.gets i hl).trans hx,(hc i hl).trans h1,h2,h3⟩
theorem Ren.stp(h:Ren ps os f g)(h4:ps.length≤4){c c':Nat}(hc:∀i,i<ps.length→c'.testBit (f i)=c.testBit i)(q o:Nat):stp (dO ps c) q o↔stp (dO os c') q o:=
 ⟨h.axh h4 hc,h.symm.axh (by rw[h.len];exact h4) fun i hi=>by
  rw[h.len]at hi
  rw[←hc (g i) (h.gl i hi),h.fg i hi]⟩
theorem Ren.way(h:Ren ps os f g)(h4:ps.length≤4){n q:Nat}:dD (dO ps 0) n q=dD (dO os 0) n q:=
 ajH (h.stp h4 fun i _=>by simp)
theorem Ren.rng(h:Ren ps os f g):((List.range ps.length).map f).Perm (List.range ps.length):=by
 have hn:((List.range ps.length).map f).Nodup:=VI List.nodup_range fun a ha b hb e=>by
  rw[←h.gf a (List.mem_range.1 ha),e,h.gf b (List.mem_range.1 hb)]
 refine(List.perm_ext_iff_of_nodup hn List.nodup_range).2 fun a=>?_
 rw[List.mem_map]
 constructor
 ·rintro⟨i,hi,rfl⟩;exact List.mem_range.2 (h.fl i (List.mem_range.1 hi))
 ·intro ha
  exact⟨g a,List.mem_range.2 (h.gl a (List.mem_range.1 ha)),h.fg a (List.mem_range.1 ha)⟩
theorem Ren.flt(h:Ren ps os f g){P P':Nat→Bool}(hP:∀i,i<ps.length→P' (f i)=P i):((List.range os.length).filter P').Perm (((List.range ps.length).filter P).map f):=by
 rw[h.len]
 have h1:=(h.rng.filter P').symm
 rw[List.filter_map]at h1
 refine h1.trans (.of_eq ?_)
 congr 1
 exact List.filter_congr fun i hi=>hP i (List.mem_range.1 hi)
theorem Ren.outs(h:Ren ps os f g)(h4:ps.length≤4){q:Nat}:((dO os 0 q).map (·.2)).Perm ((dO ps 0 q).map (·.2)):=by
 have e:∀{xs:List Pn},xs.length≤4→(dO xs 0 q).map (·.2)=((List.range xs.length).filter fun i=>P9 xs q i).map fun i=>Go.aS.gy xs i q:=fun{xs} hx=>by
  rw[dO,auz hx,List.map_map];rfl
 rw[e h4,e (by rw[h.len];exact h4)]
 refine((h.flt (P:=fun i=>P9 ps q i) (P':=fun i=>P9 os q i) fun i hi=>h.tk hi).map _).trans (.of_eq ?_)
 rw[List.map_map]
 refine List.map_congr_left fun i hi=>?_
 exact h.gy (List.mem_range.1 (List.mem_filter.1 hi).1)
theorem Ren.qN(h:Ren ps os f g)(h4:ps.length≤4){T:Nat→Bool}:∀{n q:Nat},qN (dO os 0) T n q=qN (dO ps 0) T n q
 | 0,q=>rfl
 | n+1,q=>by
  have e:∀{G:yV} (l:List (Nat×Nat)) (a:Nat×Nat),l.foldl (fun a po=>(max a.1 ((Go.aS.qN G T n po.2).1+1),a.2+(Go.aS.qN G T n po.2).2)) a=(l.map (·.2)).foldl (fun a o=>(max a.1 ((Go.aS.qN G T n o).1+1),a.2+(Go.aS.qN G T n o).2)) a:=fun l a=>by
   rw[List.foldl_map]
  rw[Go.aS.qN,Go.aS.qN,e,e]
  have e2:(fun(a:Nat×Nat) (o:Nat)=>(max a.1 ((Go.aS.qN (dO os 0) T n o).1+1),a.2+(Go.aS.qN (dO os 0) T n o).2))=fun a o=>(max a.1 ((Go.aS.qN (dO ps 0) T n o).1+1),a.2+(Go.aS.qN (dO ps 0) T n o).2):=by
   funext a o;rw[h.qN h4]
  rw[e2]
  refine(h.outs h4).foldl_eq' (fun x _ y _ z=>?_) _
  refine Prod.ext ?_ ?_
  ·simp only;omega
  ·simp only;omega
theorem Ren.fin(h:Ren ps os f g)(h4:ps.length≤4){q:Nat}:og (dO os 0) (fun k=>dY os k) q=og (dO ps 0) (fun k=>dY ps k) q:=by
 have e:(fun k:Nat=>dY os (k:Int))=fun k:Nat=>dY ps k:=funext fun k=>h.trc
 rw[e];exact h.qN h4
end Go.aS

/- Some order of numbers; pans under other numbers. Conditions: none; over the given program. -/
namespace Go.aS
set_option maxRecDepth 100000
set_option maxHeartbeats 4000000
section
variable{x:Cx}{ρ:Env}{F:ah}{o:Oper}{R:Value→ah→Prop}
end
theorem Part.axi{c:Array Value}{X:List Pn}{i:Nat}{p:Pn}(h:Part c 0 (flat Pn.row X))(hi:i<X.length):Part (jv c (0+i*3) (Pn.row p)) 0 (flat Pn.row (X.set i p)):=by
 have hp:X[i]? =some X[i]:=List.getElem?_eq_getElem hi
 have h1:=h.setRow hp (j:=0) (v:=I p.lo) (p':=⟨p.lo,X[i].hi,X[i].sh⟩) (by decide) rfl
 have h2:=h1.setRow (i:=i) (p:=⟨p.lo,X[i].hi,X[i].sh⟩) (j:=1) (v:=I p.hi) (p':=⟨p.lo,p.hi,X[i].sh⟩) (by rw[List.getElem?_set_self hi]) (by decide) rfl
 have h3:=h2.setRow (i:=i) (p:=⟨p.lo,p.hi,X[i].sh⟩) (j:=2) (v:=I p.sh) (p':=p) (by rw[List.getElem?_set_self (by rw[List.length_set];exact hi)]) (by decide) rfl
 rw[List.set_set,List.set_set]at h3
 rw[Nat.zero_add]
 exact h3
end Go.aS

/- SyrupKnown. Conditions: none; over the given program. -/
namespace Go.aS
set_option maxRecDepth 100000
set_option maxHeartbeats 4000000
theorem Ops.azG{x:Cx}{ops:Array Oper}{rest:List Nat}{Q:Post}{ρ:Env}{ds:List Deferred}{F S:ah}{w:Value}{l:List Int}(hR:Vx S w l)(hm:∀p∈S,p∈F)(H:∀a cap,w= .slice a l.length cap→Ops x ops rest Q ρ ds F):Ops x ops rest Q ρ ds F:=by
 intro b k cs Stop tmps hk M h1 h0 h2 h3 h4 h5 hc
 obtain⟨a,cap,e⟩:=(hR.2 hk fun b o hb=>(h5.own b o (hm _ hb)).1).dA
 exact H a cap e b k cs Stop tmps hk M h1 h0 h2 h3 h4 h5 hc
theorem axe:nV (s3.set 0 ⟨8,13,0⟩)=1:=by kernel_rfl
theorem axf:nV (s3.set 0 ⟨8,7,9⟩)=5:=by kernel_rfl
theorem axg:nV (s3.set 0 ⟨8,12,7⟩)=1:=by kernel_rfl
theorem axp:TkF s3 9=([0,1],0):=by kernel_rfl
theorem axx:TkF s3 5=([1,2],0):=by kernel_rfl
theorem axB:TkF s3 1=([],0):=by kernel_rfl
theorem awU:TkF s3 13=([],1):=by kernel_rfl
theorem axF:Aq s3 12 [1]=([],12):=by kernel_rfl
theorem axK:Aq s3 12 [3]=([],3):=by kernel_rfl
theorem axL:aef s3=([2,3,4,5,6,7,8,9,10,11,12],0):=by kernel_rfl
theorem axM:aef t3=([],0):=by kernel_rfl
theorem axN:ET s3 9=([],11):=by kernel_rfl
theorem awJ:qh s3 12=((0,0),9):=by kernel_rfl
theorem axO:qh s3 1=((0,1),0):=by kernel_rfl
theorem axP:ahU s3 4=([1],0):=by kernel_rfl
theorem awV:ahU s3 12=([0,0,1,2,1,2,1],0):=by kernel_rfl
theorem axQ:ahU s3 1=([],0):=by kernel_rfl
theorem axR:EnF s3 4=([1],0):=by kernel_rfl
theorem axS:EnF t3 4=([1],0):=by kernel_rfl
theorem axT:EnF t3 9=([3],0):=by kernel_rfl
theorem ayH:qh t3 1=((0,1),0):=by kernel_rfl
theorem awW:FoF s3 12=([0,1,2],0):=by kernel_rfl
theorem axU:FoF t3 9=([1],0):=by kernel_rfl
theorem axV:FoF t3 1=([],0):=by kernel_rfl
theorem awH:nV t3=0∧Oo t3=[]:=⟨by kernel_rfl,by kernel_rfl⟩
theorem axW:AA t3 l3 [6,6]=([0,1,-1],9,0):=by kernel_rfl
theorem ayI:amz s3 l3 [6,6,2] 2=(2,0):=by kernel_rfl
theorem ayJ:amz s3 l3 [6,6,2] 0=(1,0):=by kernel_rfl
theorem ayK:amz s3 l3 [6,6,2] 3=(0,3):=by kernel_rfl
theorem ayL:asO s3 l3=(5,0):=by kernel_rfl
theorem ayM:asO t3 l3=(7,0):=by kernel_rfl
theorem awx(main:Side)(hS:∀S,main.ok S→∃Fin,S=Mo prog Fin)(hmb:main.b=true)(h:Hp)(Eg:TypeId)(zg:Nat×Nat)(hg:h 0=some (.cells #[Ur qM] Eg zg))(z0:h.z 0):QE prog main av4 #[] h (.bool true):=by
 refine QE.aG awc rfl (by show 0≤438;decide) [] trivial ?_
 refine W.seq<|W.region rfl<|agb rfl rfl rfl<|pq<|W.seq<|W.region rfl ?_
 refine c0 (fun h' hE hL=>YQ _ h') (fun v A1 hs=>?_)
 rcases hs with⟨h9,-⟩ | ⟨βa,ca,cpa,Ja,rfl,rfl,ha1,ha2,hpa,hJa⟩
 ·cases h9
 refine Ops.sb (F':=(βa,.cells ca Ag (0,0))::[]) (.cons (.left .refl hJa)) ?_
 refine c0 (fun h' hE hL=>YQ _ h') (fun v A1 hs=>?_)
 rcases hs with⟨h9,-⟩ | ⟨βb,cb,cpb,Jb,rfl,rfl,hb1,hb2,hpb,hJb⟩
 ·cases h9
 refine Ops.sb (F':=(βb,.cells cb Ag (0,0))::[(βa,.cells ca Ag (0,0))]) (.cons (.left .refl hJb)) ?_
 refine c0 (fun h' hE hL=>YQ _ h') (fun v A1 hs=>?_)
 rcases hs with⟨h9,-⟩ | ⟨βc,cc,cpc,Jc,rfl,rfl,hc1,hc2,hpc,hJc⟩
 ·cases h9
 refine Ops.sb (F':=(βc,.cells cc Ag (0,0))::[(βb,.cells cb Ag (0,0)),(βa,.cells ca Ag (0,0))]) (.cons (.left .refl hJc)) ?_
 have hl3:s3.length=3:=rfl
 refine agb rfl rfl rfl<|agb rfl rfl rfl<|agb rfl rfl rfl<|pq<|W.seq<|W.region rfl<|qm rfl rfl rfl<|qm rfl rfl rfl<|qm rfl rfl rfl ?_
 refine agW (eH rfl rfl rfl) rfl ?_
 refine agW (eH rfl rfl rfl) rfl ?_
 refine agW (eH rfl rfl rfl) rfl ?_
 refine ag3 rfl ?_
 first | refine Ops.jP ?_ | refine Ops.nY ?_
 refine ag3 rfl ?_
 first | refine Ops.jP ?_ | refine Ops.nY ?_
 refine ag3 rfl ?_
 first | refine Ops.jP ?_ | refine Ops.nY ?_
 refine pq<|W.seq<|W.seq<|W.region rfl ?_
 have hxa:Os Ag Pn.row (.slice (some ⟨βa,0,none⟩) s3.length cpa) (s3.set 0 ⟨8,13,0⟩) [(βa,.cells (jv ca (0+0*3) (Pn.row ⟨8,13,0⟩)) Ag (0,0))]:=.inr ⟨βa,_,cpa,[],rfl,rfl,by rw[y9];exact ha1,ha2,hpa.axi (by decide),.nil⟩
 have hxb:Os Ag Pn.row (.slice (some ⟨βb,0,none⟩) s3.length cpb) (s3.set 0 ⟨8,7,9⟩) [(βb,.cells (jv cb (0+0*3) (Pn.row ⟨8,7,9⟩)) Ag (0,0))]:=.inr ⟨βb,_,cpb,[],rfl,rfl,by rw[y9];exact hb1,hb2,hpb.axi (by decide),.nil⟩
 have hxc:Os Ag Pn.row (.slice (some ⟨βc,0,none⟩) s3.length cpc) (s3.set 0 ⟨8,12,7⟩) [(βc,.cells (jv cc (0+0*3) (Pn.row ⟨8,12,7⟩)) Ag (0,0))]:=.inr ⟨βc,_,cpc,[],rfl,rfl,by rw[y9];exact hc1,hc2,hpc.axi (by decide),.nil⟩
 refine cp (u:=.bool true) (fun h' hE hL=>VW _ h' hS hmb _ _ (hE.1 _ _ hg)) ?_
 refine KU (u:=.bool false) (xU rfl rfl) rfl rfl wn rfl rfl ?_
 refine qm rfl rfl rfl ?_
 refine oe rfl (ak rfl rfl rfl) rfl rfl (lQ (args:=[]) rfl rfl (fun h' hE hL=>YQ _ h') (fun v A1 hs=>?_))
 refine cp (g:=some _) (fun h' hE hL=>Vm _ h' s3 _ (hs.sl fun b o hb=>hL b o (by simp[hb]))) ?_
 rw[J8.1]
 refine Ops.sb (.left .refl hs.shut) ?_
 clear hs
 refine KU (u:=.bool false) (nG rfl rfl rfl) rfl rfl (ak rfl rfl rfl) rfl rfl ?_
 refine agW (iH rfl rfl rfl) rfl ?_
 refine qm rfl rfl rfl ?_
 refine oq (aN rfl rfl) rfl (ak rfl rfl rfl) rfl rfl ?_
 refine cp (g:=some _) (fun h' hE hL=>Vm _ h' (s3.set 0 ⟨8,13,0⟩) _ (hxa.sl fun b o hb=>hL b o (by cases List.mem_singleton.1 hb;repeat(first | exact List.Mem.head _ | apply List.Mem.tail)))) ?_
 rw[axe]
 refine KU (u:=.bool false) (nG rfl rfl rfl) rfl rfl (ak rfl rfl rfl) rfl rfl ?_
 refine agW (iH rfl rfl rfl) rfl ?_
 refine qm rfl rfl rfl ?_
 refine oq (aN rfl rfl) rfl (ak rfl rfl rfl) rfl rfl ?_
 refine cp (g:=some _) (fun h' hE hL=>Vm _ h' (s3.set 0 ⟨8,7,9⟩) _ (hxb.sl fun b o hb=>hL b o (by cases List.mem_singleton.1 hb;repeat(first | exact List.Mem.head _ | apply List.Mem.tail)))) ?_
 rw[axf]
 refine KU (u:=.bool false) (nG rfl rfl rfl) rfl rfl (ak rfl rfl rfl) rfl rfl ?_
 refine agW (iH rfl rfl rfl) rfl ?_
 refine qm rfl rfl rfl ?_
 refine oq (aN rfl rfl) rfl (ak rfl rfl rfl) rfl rfl ?_
 refine cp (g:=some _) (fun h' hE hL=>Vm _ h' (s3.set 0 ⟨8,12,7⟩) _ (hxc.sl fun b o hb=>hL b o (by cases List.mem_singleton.1 hb;repeat(first | exact List.Mem.head _ | apply List.Mem.tail)))) ?_
 rw[axg]
 refine KU (u:=.bool false) (nG rfl rfl rfl) rfl rfl (ak rfl rfl rfl) rfl rfl ?_
 refine agW (iH rfl rfl rfl) rfl ?_
 refine pq ?_
 refine W.bZ ?_
 refine W.skip<|aA<|W.seq<|W.region rfl ?_
 refine Ops.sb (F':=[]) (.nil (.cons rfl (.cons rfl (.cons rfl .nil)))) ?_
 refine c0 (fun h' hE hL=>YQ _ h') (fun v A1 hs=>?_)
 refine c0 (fun h' hE hL=>ala _ h' s3 _ 9 (hs.sl fun b o hb=>hL b o (by simp[hb]))) (fun v A2 hv=>?_)
 obtain⟨w1,S1,rfl,h1,hsb⟩:=hv
 rw[axp]at h1⊢
 dsimp only at h1⊢
 have azH:Shut S1:=h1.shut
 refine Ops.sb (F':=S1++([])) (hsb.app (.left .refl hs.shut)) ?_
 clear hs hsb
 refine qm rfl rfl rfl<|oq (bD rfl rfl rfl) rfl wn rfl rfl<|oq (bD rfl rfl rfl) rfl wn rfl rfl<|agb rfl rfl rfl<|agb rfl rfl rfl<|pq<|W.seq<|W.region rfl ?_
 refine c0 (fun h' hE hL=>YQ _ h') (fun v A1 hs=>?_)
 refine c0 (fun h' hE hL=>ala _ h' s3 _ 5 (hs.sl fun b o hb=>hL b o (by simp[hb]))) (fun v A2 hv=>?_)
 obtain⟨w2,S2,rfl,h2,hsb⟩:=hv
 rw[axx]at h2⊢
 dsimp only at h2⊢
 have azI:Shut S2:=h2.shut
 refine Ops.sb (F':=S2++(S1++([]))) (hsb.app (.left .refl hs.shut)) ?_
 clear hs hsb
 refine qm rfl rfl rfl<|oq (bD rfl rfl rfl) rfl wn rfl rfl<|oq (bD rfl rfl rfl) rfl wn rfl rfl<|agb rfl rfl rfl<|agb rfl rfl rfl<|pq<|W.seq<|W.region rfl ?_
 refine c0 (fun h' hE hL=>YQ _ h') (fun v A1 hs=>?_)
 refine c0 (fun h' hE hL=>ala _ h' s3 _ 1 (hs.sl fun b o hb=>hL b o (by simp[hb]))) (fun v A2 hv=>?_)
 obtain⟨w3,S3,rfl,h3,hsb⟩:=hv
 rw[axB]at h3⊢
 dsimp only at h3⊢
 have azJ:Shut S3:=h3.shut
 refine Ops.sb (F':=S3++(S2++(S1++([])))) (hsb.app (.left .refl hs.shut)) ?_
 clear hs hsb
 obtain⟨aw3,cw3,he⟩:=h3.dA
 subst he
 refine qm rfl rfl rfl<|oq (bD rfl rfl rfl) rfl wn rfl rfl<|oq (bD rfl rfl rfl) rfl wn rfl rfl<|agb rfl rfl rfl<|agb rfl rfl rfl<|pq<|W.seq<|W.region rfl ?_
 refine c0 (fun h' hE hL=>YQ _ h') (fun v A1 hs=>?_)
 refine c0 (fun h' hE hL=>ala _ h' s3 _ 13 (hs.sl fun b o hb=>hL b o (by simp[hb]))) (fun v A2 hv=>?_)
 obtain⟨w4,S4,rfl,h4,hsb⟩:=hv
 rw[awU]at h4⊢
 dsimp only at h4⊢
 have azK:Shut S4:=h4.shut
 refine Ops.sb (F':=S3++(S2++(S1++([])))) (.left (.left .refl hs.shut) (Sb.trans (.nil azK) hsb).shut) ?_
 clear hs hsb
 refine qm rfl rfl rfl<|oq (bD rfl rfl rfl) rfl wn rfl rfl<|oq (bD rfl rfl rfl) rfl wn rfl rfl<|agb rfl rfl rfl<|agb rfl rfl rfl<|pq<|W.seq<|W.region rfl ?_
 refine c0 (fun h' hE hL=>YQ _ h') (fun v A1 hs=>?_)
 refine Ops.NK (cs:= #[I 1]) (fun βl=>?_) rfl
 refine c0 (fun h' hE hL=>aah _ h' s3 _ 12 [1] _ _ _ (hs.sl fun b o hb=>hL b o (by simp[hb])) (Sl.mk (hL βl _ (.head _)) rfl (Part.all [I 1])) (hE.1 _ _ hg)) (fun v A2 hv=>?_)
 obtain⟨w5,S5,rfl,h5,hsb⟩:=hv
 rw[axF]at h5⊢
 dsimp only at h5⊢
 have azL:Shut S5:=h5.shut
 refine Ops.sb (F':=S3++(S2++(S1++([])))) (.left (.skip rfl (.left .refl hs.shut)) (Sb.trans (.nil azL) hsb).shut) ?_
 clear hs hsb
 refine qm rfl rfl rfl<|oq (bD rfl rfl rfl) rfl wn rfl rfl<|oq (bD rfl rfl rfl) rfl wn rfl rfl<|agb rfl rfl rfl<|agb rfl rfl rfl<|pq<|W.seq<|W.region rfl ?_
 refine c0 (fun h' hE hL=>YQ _ h') (fun v A1 hs=>?_)
 refine Ops.NK (cs:= #[I 3]) (fun βl=>?_) rfl
 refine c0 (fun h' hE hL=>aah _ h' s3 _ 12 [3] _ _ _ (hs.sl fun b o hb=>hL b o (by simp[hb])) (Sl.mk (hL βl _ (.head _)) rfl (Part.all [I 3])) (hE.1 _ _ hg)) (fun v A2 hv=>?_)
 obtain⟨w6,S6,rfl,h6,hsb⟩:=hv
 rw[axK]at h6⊢
 dsimp only at h6⊢
 have azM:Shut S6:=h6.shut
 refine Ops.sb (F':=S3++(S2++(S1++([])))) (.left (.skip rfl (.left .refl hs.shut)) (Sb.trans (.nil azM) hsb).shut) ?_
 clear hs hsb
 refine qm rfl rfl rfl<|oq (bD rfl rfl rfl) rfl wn rfl rfl<|oq (bD rfl rfl rfl) rfl wn rfl rfl<|agb rfl rfl rfl<|agb rfl rfl rfl<|pq<|W.seq<|W.seq<|W.region rfl ?_
 refine qm rfl rfl rfl ?_
 refine KU (u:=.bool false) (nG rfl rfl rfl) rfl rfl wn rfl rfl ?_
 refine qm rfl rfl rfl ?_
 refine oq (aN rfl rfl) rfl (ak rfl rfl rfl) rfl rfl ?_
 refine KU (u:=.bool false) (nG rfl rfl rfl) rfl rfl (ak rfl rfl rfl) rfl rfl ?_
 refine agW (iH rfl rfl rfl) rfl ?_
 refine qm rfl rfl rfl ?_
 refine oq (aN rfl rfl) rfl (ak rfl rfl rfl) rfl rfl ?_
 refine KU (u:=.bool false) (nG rfl rfl rfl) rfl rfl (ak rfl rfl rfl) rfl rfl ?_
 refine agW (iH rfl rfl rfl) rfl ?_
 refine qm rfl rfl rfl ?_
 refine oq (aN rfl rfl) rfl (ak rfl rfl rfl) rfl rfl ?_
 refine KU (u:=.bool false) (nG rfl rfl rfl) rfl rfl (ak rfl rfl rfl) rfl rfl ?_
 refine agW (iH rfl rfl rfl) rfl ?_
 refine qm rfl rfl rfl ?_
 refine oq (aN rfl rfl) rfl (ak rfl rfl rfl) rfl rfl ?_
 refine KU (u:=.bool false) (nG rfl rfl rfl) rfl rfl (ak rfl rfl rfl) rfl rfl ?_
 refine agW (iH rfl rfl rfl) rfl ?_
 refine qm rfl rfl rfl ?_
 refine oq (aN rfl rfl) rfl (ak rfl rfl rfl) rfl rfl ?_
 refine KU (u:=.bool false) (nG rfl rfl rfl) rfl rfl (ak rfl rfl rfl) rfl rfl ?_
 refine agW (iH rfl rfl rfl) rfl ?_
 refine qm rfl rfl rfl ?_
 refine oq (aN rfl rfl) rfl (ak rfl rfl rfl) rfl rfl ?_
 refine oq (dM rfl rfl) rfl (ak rfl rfl rfl) rfl rfl ?_
 refine KU (u:=.bool false) (rC rfl rfl rfl) rfl rfl (ak rfl rfl rfl) rfl rfl ?_
 refine agW (iH rfl rfl rfl) rfl ?_
 refine qm rfl rfl rfl ?_
 refine oq (aN rfl rfl) rfl (ak rfl rfl rfl) rfl rfl ?_
 refine Ops.NK (cs:= #[I 0,I 1]) (fun βe=>?_) rfl
 refine cp (u:=.bool true) (fun h' hE hL=>Iw _ h' [0,1] _ _ (h1.sl (fun b o hb=>hL b o (by simp[hb]))) (Sl.mk (hL βe _ (.head _)) rfl (Part.all [I 0,I 1])) (by simp)) ?_
 refine Ops.sb (.skip rfl .refl) ?_
 refine KU (u:=.bool false) (xU rfl rfl) rfl rfl (ak rfl rfl rfl) rfl rfl ?_
 refine agW (iH rfl rfl rfl) rfl ?_
 refine qm rfl rfl rfl ?_
 refine oq (aN rfl rfl) rfl (ak rfl rfl rfl) rfl rfl ?_
 refine Ops.NK (cs:= #[I 1,I 2]) (fun βe=>?_) rfl
 refine cp (u:=.bool true) (fun h' hE hL=>Iw _ h' [1,2] _ _ (h2.sl (fun b o hb=>hL b o (by simp[hb]))) (Sl.mk (hL βe _ (.head _)) rfl (Part.all [I 1,I 2])) (by simp)) ?_
 refine Ops.sb (.skip rfl .refl) ?_
 refine KU (u:=.bool false) (xU rfl rfl) rfl rfl (ak rfl rfl rfl) rfl rfl ?_
 refine agW (iH rfl rfl rfl) rfl ?_
 refine pq ?_
 refine W.bZ ?_
 refine W.skip<|aA<|W.seq<|W.region rfl ?_
 refine Ops.sb (F':=[]) (.nil ((azJ.app (azI.app (azH.app .nil))))) ?_
 refine c0 (fun h' hE hL=>YQ _ h') (fun v A1 hs=>?_)
 refine c0 (fun h' hE hL=>afo _ h' s3 _ (hs.sl fun b o hb=>hL b o (by simp[hb]))) (fun v A2 hv=>?_)
 obtain⟨w7,S7,rfl,h7,hsb⟩:=hv
 rw[axL]at h7⊢
 dsimp only at h7⊢
 have azN:Shut S7:=h7.shut
 refine Ops.sb (F':=S7++([])) (hsb.app (.left .refl hs.shut)) ?_
 clear hs hsb
 refine qm rfl rfl rfl<|oq (bD rfl rfl rfl) rfl wn rfl rfl<|oq (bD rfl rfl rfl) rfl wn rfl rfl<|agb rfl rfl rfl<|agb rfl rfl rfl<|pq<|W.seq<|W.region rfl ?_
 refine c0 (fun h' hE hL=>ad1 _ h') (fun v A1 hs=>?_)
 refine c0 (fun h' hE hL=>afo _ h' t3 _ (hs.sl fun b o hb=>hL b o (by simp[hb]))) (fun v A2 hv=>?_)
 obtain⟨w8,S8,rfl,h8,hsb⟩:=hv
 rw[axM]at h8⊢
 dsimp only at h8⊢
 have azO:Shut S8:=h8.shut
 refine Ops.sb (F':=S8++(S7++([]))) (hsb.app (.left .refl hs.shut)) ?_
 clear hs hsb
 obtain⟨aw8,cw8,he⟩:=h8.dA
 subst he
 refine qm rfl rfl rfl<|oq (bD rfl rfl rfl) rfl wn rfl rfl<|oq (bD rfl rfl rfl) rfl wn rfl rfl<|agb rfl rfl rfl<|agb rfl rfl rfl<|pq<|W.seq<|W.region rfl ?_
 refine c0 (fun h' hE hL=>YQ _ h') (fun v A1 hs=>?_)
 refine c0 (fun h' hE hL=>aao _ h' s3 _ 9 (hs.sl fun b o hb=>hL b o (by simp[hb]))) (fun v A2 hv=>?_)
 obtain⟨w9,S9,rfl,h9,hsb⟩:=hv
 rw[axN]at h9⊢
 dsimp only at h9⊢
 have azP:Shut S9:=h9.1
 refine Ops.sb (F':=S8++(S7++([]))) (.left (.left .refl hs.shut) (Sb.trans (.nil azP) hsb).shut) ?_
 clear hs hsb
 refine qm rfl rfl rfl<|oq (bD rfl rfl rfl) rfl wn rfl rfl<|oq (bD rfl rfl rfl) rfl wn rfl rfl<|agb rfl rfl rfl<|pq<|W.seq<|W.region rfl ?_
 refine c0 (fun h' hE hL=>YQ _ h') (fun v A1 hs=>?_)
 refine cp (fun h' hE hL=>J3 _ h' s3 _ 12 (hs.sl fun b o hb=>hL b o (by simp[hb]))) ?_
 rw[awJ]
 refine Ops.sb (F':=S8++(S7++([]))) (.left .refl hs.shut) ?_
 clear hs
 refine qm rfl rfl rfl<|oq (bD rfl rfl rfl) rfl wn rfl rfl<|oq (bD rfl rfl rfl) rfl wn rfl rfl<|agb rfl rfl rfl<|pq<|W.seq<|W.region rfl ?_
 refine c0 (fun h' hE hL=>YQ _ h') (fun v A1 hs=>?_)
 refine cp (fun h' hE hL=>J3 _ h' s3 _ 1 (hs.sl fun b o hb=>hL b o (by simp[hb]))) ?_
 rw[axO]
 refine Ops.sb (F':=S8++(S7++([]))) (.left .refl hs.shut) ?_
 clear hs
 refine qm rfl rfl rfl<|oq (bD rfl rfl rfl) rfl wn rfl rfl<|oq (bD rfl rfl rfl) rfl wn rfl rfl<|agb rfl rfl rfl<|agb rfl rfl rfl<|pq<|W.seq<|W.seq<|W.region rfl ?_
 refine qm rfl rfl rfl ?_
 refine KU (u:=.bool false) (nG rfl rfl rfl) rfl rfl wn rfl rfl ?_
 refine qm rfl rfl rfl ?_
 refine oq (aN rfl rfl) rfl (ak rfl rfl rfl) rfl rfl ?_
 refine KU (u:=.bool false) (nG rfl rfl rfl) rfl rfl (ak rfl rfl rfl) rfl rfl ?_
 refine agW (iH rfl rfl rfl) rfl ?_
 refine qm rfl rfl rfl ?_
 refine oq (aN rfl rfl) rfl (ak rfl rfl rfl) rfl rfl ?_
 refine KU (u:=.bool false) (nG rfl rfl rfl) rfl rfl (ak rfl rfl rfl) rfl rfl ?_
 refine agW (iH rfl rfl rfl) rfl ?_
 refine qm rfl rfl rfl ?_
 refine oq (aN rfl rfl) rfl (ak rfl rfl rfl) rfl rfl ?_
 refine KU (u:=.bool false) (nG rfl rfl rfl) rfl rfl (ak rfl rfl rfl) rfl rfl ?_
 refine agW (iH rfl rfl rfl) rfl ?_
 refine qm rfl rfl rfl ?_
 refine oq (aN rfl rfl) rfl (ak rfl rfl rfl) rfl rfl ?_
 refine KU (u:=.bool false) (nG rfl rfl rfl) rfl rfl (ak rfl rfl rfl) rfl rfl ?_
 refine agW (iH rfl rfl rfl) rfl ?_
 refine qm rfl rfl rfl ?_
 refine oq (aN rfl rfl) rfl (ak rfl rfl rfl) rfl rfl ?_
 refine KU (u:=.bool false) (nG rfl rfl rfl) rfl rfl (ak rfl rfl rfl) rfl rfl ?_
 refine agW (iH rfl rfl rfl) rfl ?_
 refine qm rfl rfl rfl ?_
 refine oq (aN rfl rfl) rfl (ak rfl rfl rfl) rfl rfl ?_
 refine oq (dM rfl rfl) rfl (ak rfl rfl rfl) rfl rfl ?_
 refine KU (u:=.bool false) (rC rfl rfl rfl) rfl rfl (ak rfl rfl rfl) rfl rfl ?_
 refine agW (iH rfl rfl rfl) rfl ?_
 refine qm rfl rfl rfl ?_
 refine oq (aN rfl rfl) rfl (ak rfl rfl rfl) rfl rfl ?_
 refine Ops.NK (cs:= #[I 2,I 3,I 4,I 5,I 6,I 7,I 8,I 9,I 10,I 11,I 12]) (fun βe=>?_) rfl
 refine cp (u:=.bool true) (fun h' hE hL=>Iw _ h' [2,3,4,5,6,7,8,9,10,11,12] _ _ (h7.sl (fun b o hb=>hL b o (by simp[hb]))) (Sl.mk (hL βe _ (.head _)) rfl (Part.all [I 2,I 3,I 4,I 5,I 6,I 7,I 8,I 9,I 10,I 11,I 12])) (by simp)) ?_
 refine Ops.sb (.skip rfl .refl) ?_
 refine KU (u:=.bool false) (xU rfl rfl) rfl rfl (ak rfl rfl rfl) rfl rfl ?_
 refine agW (iH rfl rfl rfl) rfl ?_
 refine pq ?_
 refine W.bZ ?_
 refine W.skip<|aA<|W.seq<|W.region rfl ?_
 refine Ops.sb (F':=[]) (.nil ((azO.app (azN.app .nil)))) ?_
 refine c0 (fun h' hE hL=>YQ _ h') (fun v A1 hs=>?_)
 refine c0 (fun h' hE hL=>aib _ h' s3 _ 4 (hs.sl fun b o hb=>hL b o (by simp[hb]))) (fun v A2 hv=>?_)
 obtain⟨w12,S12,rfl,h12,hsb⟩:=hv
 rw[axP]at h12⊢
 dsimp only at h12⊢
 have ayO:Shut S12:=h12.1
 refine Ops.sb (F':=S12++([])) (hsb.app (.left .refl hs.shut)) ?_
 clear hs hsb
 refine qm rfl rfl rfl<|oq (bD rfl rfl rfl) rfl wn rfl rfl<|oq (bD rfl rfl rfl) rfl wn rfl rfl<|agb rfl rfl rfl<|agb rfl rfl rfl<|pq<|W.seq<|W.region rfl ?_
 refine c0 (fun h' hE hL=>YQ _ h') (fun v A1 hs=>?_)
 refine c0 (fun h' hE hL=>aib _ h' s3 _ 12 (hs.sl fun b o hb=>hL b o (by simp[hb]))) (fun v A2 hv=>?_)
 obtain⟨w13,S13,rfl,h13,hsb⟩:=hv
 rw[awV]at h13⊢
 dsimp only at h13⊢
 have ayP:Shut S13:=h13.1
 refine Ops.sb (F':=S13++(S12++([]))) (hsb.app (.left .refl hs.shut)) ?_
 clear hs hsb
 refine qm rfl rfl rfl<|oq (bD rfl rfl rfl) rfl wn rfl rfl<|oq (bD rfl rfl rfl) rfl wn rfl rfl<|agb rfl rfl rfl<|agb rfl rfl rfl<|pq<|W.seq<|W.region rfl ?_
 refine c0 (fun h' hE hL=>YQ _ h') (fun v A1 hs=>?_)
 refine c0 (fun h' hE hL=>aib _ h' s3 _ 1 (hs.sl fun b o hb=>hL b o (by simp[hb]))) (fun v A2 hv=>?_)
 obtain⟨w14,S14,rfl,h14,hsb⟩:=hv
 rw[axQ]at h14⊢
 dsimp only at h14⊢
 have ayR:Shut S14:=h14.1
 refine Ops.sb (F':=S14++(S13++(S12++([])))) (hsb.app (.left .refl hs.shut)) ?_
 clear hs hsb
 refine Ops.azG h14 (fun p hp=>by simp[hp]) (fun aAg aAh he=>?_)
 subst he
 refine qm rfl rfl rfl<|oq (bD rfl rfl rfl) rfl wn rfl rfl<|oq (bD rfl rfl rfl) rfl wn rfl rfl<|agb rfl rfl rfl<|agb rfl rfl rfl<|pq<|W.seq<|W.region rfl ?_
 refine c0 (fun h' hE hL=>YQ _ h') (fun v A1 hs=>?_)
 refine c0 (fun h' hE hL=>aiH _ h' s3 _ 4 (hs.sl fun b o hb=>hL b o (by simp[hb]))) (fun v A2 hv=>?_)
 obtain⟨w15,S15,rfl,h15,hsb⟩:=hv
 rw[axR]at h15⊢
 dsimp only at h15⊢
 have ayS:Shut S15:=h15.shut
 refine Ops.sb (F':=S15++(S14++(S13++(S12++([]))))) (hsb.app (.left .refl hs.shut)) ?_
 clear hs hsb
 refine qm rfl rfl rfl<|oq (bD rfl rfl rfl) rfl wn rfl rfl<|oq (bD rfl rfl rfl) rfl wn rfl rfl<|agb rfl rfl rfl<|agb rfl rfl rfl<|pq<|W.seq<|W.region rfl ?_
 refine c0 (fun h' hE hL=>ad1 _ h') (fun v A1 hs=>?_)
 refine c0 (fun h' hE hL=>aiH _ h' t3 _ 4 (hs.sl fun b o hb=>hL b o (by simp[hb]))) (fun v A2 hv=>?_)
 obtain⟨w16,S16,rfl,h16,hsb⟩:=hv
 rw[axS]at h16⊢
 dsimp only at h16⊢
 have ayT:Shut S16:=h16.shut
 refine Ops.sb (F':=S16++(S15++(S14++(S13++(S12++([])))))) (hsb.app (.left .refl hs.shut)) ?_
 clear hs hsb
 refine qm rfl rfl rfl<|oq (bD rfl rfl rfl) rfl wn rfl rfl<|oq (bD rfl rfl rfl) rfl wn rfl rfl<|agb rfl rfl rfl<|agb rfl rfl rfl<|pq<|W.seq<|W.region rfl ?_
 refine c0 (fun h' hE hL=>ad1 _ h') (fun v A1 hs=>?_)
 refine c0 (fun h' hE hL=>aiH _ h' t3 _ 9 (hs.sl fun b o hb=>hL b o (by simp[hb]))) (fun v A2 hv=>?_)
 obtain⟨w17,S17,rfl,h17,hsb⟩:=hv
 rw[axT]at h17⊢
 dsimp only at h17⊢
 have ayU:Shut S17:=h17.shut
 refine Ops.sb (F':=S17++(S16++(S15++(S14++(S13++(S12++([]))))))) (hsb.app (.left .refl hs.shut)) ?_
 clear hs hsb
 refine qm rfl rfl rfl<|oq (bD rfl rfl rfl) rfl wn rfl rfl<|oq (bD rfl rfl rfl) rfl wn rfl rfl<|agb rfl rfl rfl<|agb rfl rfl rfl<|pq<|W.seq<|W.seq<|W.region rfl ?_
 refine qm rfl rfl rfl ?_
 refine KU (u:=.bool false) (nG rfl rfl rfl) rfl rfl wn rfl rfl ?_
 refine qm rfl rfl rfl ?_
 refine oq (aN rfl rfl) rfl (ak rfl rfl rfl) rfl rfl ?_
 refine KU (u:=.bool false) (nG rfl rfl rfl) rfl rfl (ak rfl rfl rfl) rfl rfl ?_
 refine agW (iH rfl rfl rfl) rfl ?_
 refine qm rfl rfl rfl ?_
 refine oq (aN rfl rfl) rfl (ak rfl rfl rfl) rfl rfl ?_
 refine KU (u:=.bool false) (nG rfl rfl rfl) rfl rfl (ak rfl rfl rfl) rfl rfl ?_
 refine agW (iH rfl rfl rfl) rfl ?_
 refine qm rfl rfl rfl ?_
 refine oq (aN rfl rfl) rfl (ak rfl rfl rfl) rfl rfl ?_
 refine KU (u:=.bool false) (nG rfl rfl rfl) rfl rfl (ak rfl rfl rfl) rfl rfl ?_
 refine agW (iH rfl rfl rfl) rfl ?_
 refine qm rfl rfl rfl ?_
 refine oq (aN rfl rfl) rfl (ak rfl rfl rfl) rfl rfl ?_
 refine KU (u:=.bool false) (nG rfl rfl rfl) rfl rfl (ak rfl rfl rfl) rfl rfl ?_
 refine agW (iH rfl rfl rfl) rfl ?_
 refine qm rfl rfl rfl ?_
 refine oq (aN rfl rfl) rfl (ak rfl rfl rfl) rfl rfl ?_
 refine KU (u:=.bool false) (nG rfl rfl rfl) rfl rfl (ak rfl rfl rfl) rfl rfl ?_
 refine agW (iH rfl rfl rfl) rfl ?_
 refine qm rfl rfl rfl ?_
 refine oq (aN rfl rfl) rfl (ak rfl rfl rfl) rfl rfl ?_
 refine oq (dM rfl rfl) rfl (ak rfl rfl rfl) rfl rfl ?_
 refine KU (u:=.bool false) (rC rfl rfl rfl) rfl rfl (ak rfl rfl rfl) rfl rfl ?_
 refine agW (iH rfl rfl rfl) rfl ?_
 refine qm rfl rfl rfl ?_
 refine oq (aN rfl rfl) rfl (ak rfl rfl rfl) rfl rfl ?_
 refine Ops.NK (cs:= #[I 1]) (fun βe=>?_) rfl
 refine cp (u:=.bool true) (fun h' hE hL=>Iw _ h' [1] _ _ (h12.2 _ (fun b o hb=>hL b o (by simp[hb]))) (Sl.mk (hL βe _ (.head _)) rfl (Part.all [I 1])) (by simp)) ?_
 refine Ops.sb (.skip rfl .refl) ?_
 refine KU (u:=.bool false) (xU rfl rfl) rfl rfl (ak rfl rfl rfl) rfl rfl ?_
 refine agW (iH rfl rfl rfl) rfl ?_
 refine qm rfl rfl rfl ?_
 refine oq (aN rfl rfl) rfl (ak rfl rfl rfl) rfl rfl ?_
 refine Ops.NK (cs:= #[I 0,I 0,I 1,I 2,I 1,I 2,I 1]) (fun βe=>?_) rfl
 refine cp (u:=.bool true) (fun h' hE hL=>Iw _ h' [0,0,1,2,1,2,1] _ _ (h13.2 _ (fun b o hb=>hL b o (by simp[hb]))) (Sl.mk (hL βe _ (.head _)) rfl (Part.all [I 0,I 0,I 1,I 2,I 1,I 2,I 1])) (by simp)) ?_
 refine Ops.sb (.skip rfl .refl) ?_
 refine KU (u:=.bool false) (xU rfl rfl) rfl rfl (ak rfl rfl rfl) rfl rfl ?_
 refine agW (iH rfl rfl rfl) rfl ?_
 refine qm rfl rfl rfl ?_
 refine oq (aN rfl rfl) rfl (ak rfl rfl rfl) rfl rfl ?_
 refine Ops.NK (cs:= #[I 1]) (fun βe=>?_) rfl
 refine cp (u:=.bool true) (fun h' hE hL=>Iw _ h' [1] _ _ (h15.sl (fun b o hb=>hL b o (by simp[hb]))) (Sl.mk (hL βe _ (.head _)) rfl (Part.all [I 1])) (by simp)) ?_
 refine Ops.sb (.skip rfl .refl) ?_
 refine KU (u:=.bool false) (xU rfl rfl) rfl rfl (ak rfl rfl rfl) rfl rfl ?_
 refine agW (iH rfl rfl rfl) rfl ?_
 refine qm rfl rfl rfl ?_
 refine oq (aN rfl rfl) rfl (ak rfl rfl rfl) rfl rfl ?_
 refine Ops.NK (cs:= #[I 1]) (fun βe=>?_) rfl
 refine cp (u:=.bool true) (fun h' hE hL=>Iw _ h' [1] _ _ (h16.sl (fun b o hb=>hL b o (by simp[hb]))) (Sl.mk (hL βe _ (.head _)) rfl (Part.all [I 1])) (by simp)) ?_
 refine Ops.sb (.skip rfl .refl) ?_
 refine KU (u:=.bool false) (xU rfl rfl) rfl rfl (ak rfl rfl rfl) rfl rfl ?_
 refine agW (iH rfl rfl rfl) rfl ?_
 refine qm rfl rfl rfl ?_
 refine oq (aN rfl rfl) rfl (ak rfl rfl rfl) rfl rfl ?_
 refine Ops.NK (cs:= #[I 3]) (fun βe=>?_) rfl
 refine cp (u:=.bool true) (fun h' hE hL=>Iw _ h' [3] _ _ (h17.sl (fun b o hb=>hL b o (by simp[hb]))) (Sl.mk (hL βe _ (.head _)) rfl (Part.all [I 3])) (by simp)) ?_
 refine Ops.sb (.skip rfl .refl) ?_
 refine KU (u:=.bool false) (xU rfl rfl) rfl rfl (ak rfl rfl rfl) rfl rfl ?_
 refine agW (iH rfl rfl rfl) rfl ?_
 refine pq ?_
 refine W.bZ ?_
 refine W.skip<|aA<|W.seq<|W.region rfl ?_
 refine Ops.sb (F':=[]) (.nil ((ayU.app (ayT.app (ayS.app (ayR.app (ayP.app (ayO.app .nil)))))))) ?_
 refine c0 (fun h' hE hL=>ad1 _ h') (fun v A1 hs=>?_)
 refine cp (fun h' hE hL=>Yy _ h' t3 _ 1 (hs.sl fun b o hb=>hL b o (by simp[hb]))) ?_
 rw[ayH]
 refine Ops.sb (F':=[]) (.left .refl hs.shut) ?_
 clear hs
 refine qm rfl rfl rfl<|oq (bD rfl rfl rfl) rfl wn rfl rfl<|oq (bD rfl rfl rfl) rfl wn rfl rfl<|agb rfl rfl rfl<|agb rfl rfl rfl<|pq<|W.seq<|W.region rfl ?_
 refine c0 (fun h' hE hL=>YQ _ h') (fun v A1 hs=>?_)
 refine cp (fun h' hE hL=>Yy _ h' s3 _ 12 (hs.sl fun b o hb=>hL b o (by simp[hb]))) ?_
 rw[awJ]
 refine Ops.sb (F':=[]) (.left .refl hs.shut) ?_
 clear hs
 refine qm rfl rfl rfl<|oq (bD rfl rfl rfl) rfl wn rfl rfl<|oq (bD rfl rfl rfl) rfl wn rfl rfl<|agb rfl rfl rfl<|pq<|W.seq<|W.region rfl ?_
 refine c0 (fun h' hE hL=>YQ _ h') (fun v A1 hs=>?_)
 refine c0 (fun h' hE hL=>ai5 _ h' s3 _ 12 (hs.sl fun b o hb=>hL b o (by simp[hb]))) (fun v A2 hv=>?_)
 obtain⟨w20,S20,rfl,h20,hsb⟩:=hv
 rw[awW]at h20⊢
 dsimp only at h20⊢
 have ayV:Shut S20:=h20.shut
 refine Ops.sb (F':=S20++([])) (hsb.app (.left .refl hs.shut)) ?_
 clear hs hsb
 refine qm rfl rfl rfl<|oq (bD rfl rfl rfl) rfl wn rfl rfl<|oq (bD rfl rfl rfl) rfl wn rfl rfl<|agb rfl rfl rfl<|agb rfl rfl rfl<|pq<|W.seq<|W.region rfl ?_
 refine c0 (fun h' hE hL=>ad1 _ h') (fun v A1 hs=>?_)
 refine c0 (fun h' hE hL=>ai5 _ h' t3 _ 9 (hs.sl fun b o hb=>hL b o (by simp[hb]))) (fun v A2 hv=>?_)
 obtain⟨w21,S21,rfl,h21,hsb⟩:=hv
 rw[axU]at h21⊢
 dsimp only at h21⊢
 have ayW:Shut S21:=h21.shut
 refine Ops.sb (F':=S21++(S20++([]))) (hsb.app (.left .refl hs.shut)) ?_
 clear hs hsb
 refine qm rfl rfl rfl<|oq (bD rfl rfl rfl) rfl wn rfl rfl<|oq (bD rfl rfl rfl) rfl wn rfl rfl<|agb rfl rfl rfl<|agb rfl rfl rfl<|pq<|W.seq<|W.region rfl ?_
 refine c0 (fun h' hE hL=>ad1 _ h') (fun v A1 hs=>?_)
 refine c0 (fun h' hE hL=>ai5 _ h' t3 _ 1 (hs.sl fun b o hb=>hL b o (by simp[hb]))) (fun v A2 hv=>?_)
 obtain⟨w22,S22,rfl,h22,hsb⟩:=hv
 rw[axV]at h22⊢
 dsimp only at h22⊢
 have ayX:Shut S22:=h22.shut
 refine Ops.sb (F':=S22++(S21++(S20++([])))) (hsb.app (.left .refl hs.shut)) ?_
 clear hs hsb
 obtain⟨aAi,aAj,he⟩:=h22.dA
 subst he
 refine qm rfl rfl rfl<|oq (bD rfl rfl rfl) rfl wn rfl rfl<|oq (bD rfl rfl rfl) rfl wn rfl rfl<|agb rfl rfl rfl<|agb rfl rfl rfl<|pq<|W.seq<|W.region rfl ?_
 refine c0 (fun h' hE hL=>ad1 _ h') (fun v A1 hs=>?_)
 refine Ops.JU hs (fun hz hEz hsl hzs=>?_)
 clear hs
 refine c0 (fun h' hE hL=>YB _ h' t3 _ hS hmb (hsl.ext hE) (hzs.ext hE)) (fun v S23 hv=>?_)
 obtain⟨w23,rfl,h23⟩:=hv
 rw[awH.1,if_pos rfl,awH.2]at h23
 rw[awH.1]
 have ayY:Shut S23:=h23.shut
 obtain⟨aAk,aAl,he⟩:=h23.dA
 subst he
 refine qm rfl rfl rfl<|oq (bD rfl rfl rfl) rfl wn rfl rfl<|oq (bD rfl rfl rfl) rfl wn rfl rfl<|agb rfl rfl rfl<|agb rfl rfl rfl<|pq<|W.seq<|W.seq<|W.region rfl ?_
 refine qm rfl rfl rfl ?_
 refine KU (u:=.bool false) (nG rfl rfl rfl) rfl rfl wn rfl rfl ?_
 refine qm rfl rfl rfl ?_
 refine oq (aN rfl rfl) rfl (ak rfl rfl rfl) rfl rfl ?_
 refine KU (u:=.bool false) (nG rfl rfl rfl) rfl rfl (ak rfl rfl rfl) rfl rfl ?_
 refine agW (iH rfl rfl rfl) rfl ?_
 refine qm rfl rfl rfl ?_
 refine oq (aN rfl rfl) rfl (ak rfl rfl rfl) rfl rfl ?_
 refine KU (u:=.bool false) (nG rfl rfl rfl) rfl rfl (ak rfl rfl rfl) rfl rfl ?_
 refine agW (iH rfl rfl rfl) rfl ?_
 refine qm rfl rfl rfl ?_
 refine oq (aN rfl rfl) rfl (ak rfl rfl rfl) rfl rfl ?_
 refine KU (u:=.bool false) (nG rfl rfl rfl) rfl rfl (ak rfl rfl rfl) rfl rfl ?_
 refine agW (iH rfl rfl rfl) rfl ?_
 refine qm rfl rfl rfl ?_
 refine oq (aN rfl rfl) rfl (ak rfl rfl rfl) rfl rfl ?_
 refine KU (u:=.bool false) (nG rfl rfl rfl) rfl rfl (ak rfl rfl rfl) rfl rfl ?_
 refine agW (iH rfl rfl rfl) rfl ?_
 refine qm rfl rfl rfl ?_
 refine oq (aN rfl rfl) rfl (ak rfl rfl rfl) rfl rfl ?_
 refine KU (u:=.bool false) (nG rfl rfl rfl) rfl rfl (ak rfl rfl rfl) rfl rfl ?_
 refine agW (iH rfl rfl rfl) rfl ?_
 refine qm rfl rfl rfl ?_
 refine oq (aN rfl rfl) rfl (ak rfl rfl rfl) rfl rfl ?_
 refine KU (u:=.bool false) (nG rfl rfl rfl) rfl rfl (ak rfl rfl rfl) rfl rfl ?_
 refine agW (iH rfl rfl rfl) rfl ?_
 refine qm rfl rfl rfl ?_
 refine oq (aN rfl rfl) rfl (ak rfl rfl rfl) rfl rfl ?_
 refine oq (dM rfl rfl) rfl (ak rfl rfl rfl) rfl rfl ?_
 refine oq (aN rfl rfl) rfl (ak rfl rfl rfl) rfl rfl ?_
 refine oq (dM rfl rfl) rfl (ak rfl rfl rfl) rfl rfl ?_
 first | refine oq (Zi rfl rfl rfl) rfl (ak rfl rfl rfl) rfl rfl ?_ | refine oq (MZ rfl rfl rfl) rfl (ak rfl rfl rfl) rfl rfl ?_
 refine KU (u:=.bool false) (rC rfl rfl rfl) rfl rfl (ak rfl rfl rfl) rfl rfl ?_
 refine agW (iH rfl rfl rfl) rfl ?_
 refine qm rfl rfl rfl ?_
 refine oq (aN rfl rfl) rfl (ak rfl rfl rfl) rfl rfl ?_
 refine Ops.NK (cs:= #[I 0,I 1,I 2]) (fun βe=>?_) rfl
 refine cp (u:=.bool true) (fun h' hE hL=>Iw _ h' [0,1,2] _ _ (h20.sl (fun b o hb=>hL b o (by simp[hb]))) (Sl.mk (hL βe _ (.head _)) rfl (Part.all [I 0,I 1,I 2])) (by simp)) ?_
 refine Ops.sb (.skip rfl .refl) ?_
 refine KU (u:=.bool false) (xU rfl rfl) rfl rfl (ak rfl rfl rfl) rfl rfl ?_
 refine agW (iH rfl rfl rfl) rfl ?_
 refine qm rfl rfl rfl ?_
 refine oq (aN rfl rfl) rfl (ak rfl rfl rfl) rfl rfl ?_
 refine Ops.NK (cs:= #[I 1]) (fun βe=>?_) rfl
 refine cp (u:=.bool true) (fun h' hE hL=>Iw _ h' [1] _ _ (h21.sl (fun b o hb=>hL b o (by simp[hb]))) (Sl.mk (hL βe _ (.head _)) rfl (Part.all [I 1])) (by simp)) ?_
 refine Ops.sb (.skip rfl .refl) ?_
 refine KU (u:=.bool false) (xU rfl rfl) rfl rfl (ak rfl rfl rfl) rfl rfl ?_
 refine agW (iH rfl rfl rfl) rfl ?_
 refine pq ?_
 refine W.bZ ?_
 refine W.skip<|aA<|W.seq<|W.region rfl ?_
 refine Ops.sb (F':=[]) (.nil ((ayY.app (ayX.app (ayW.app (ayV.app .nil)))))) ?_
 refine c0 (fun h' hE hL=>ad1 _ h') (fun v A1 hs=>?_)
 refine c0 (fun h' hE hL=>afF _ h') (fun v2 A6 hl=>?_)
 refine Ops.NK (cs:= #[I 6,I 6]) (fun βl=>?_) rfl
 refine c0 (fun h' hE hL=>YK _ h' t3 l3 [6,6] _ _ _ (hs.sl fun b o hb=>hL b o (by simp[hb])) (hl.sl fun b o hb=>hL b o (by simp[hb])) (Sl.mk (hL βl _ (.head _)) rfl (Part.all [I 6,I 6]))) (fun v A2 hv=>?_)
 obtain⟨w24,S24,rfl,h24,hsb⟩:=hv
 rw[axW]at h24⊢
 dsimp only at h24⊢
 have ayZ:Shut S24:=h24.shut
 refine Ops.sb (F':=S24++([])) (hsb.app (.skip rfl (.left (.left .refl hs.shut) hl.shut))) ?_
 clear hs hl hsb
 refine qm rfl rfl rfl<|oq (bD rfl rfl rfl) rfl wn rfl rfl<|oq (bD rfl rfl rfl) rfl wn rfl rfl<|oq (bD rfl rfl rfl) rfl wn rfl rfl<|agb rfl rfl rfl<|agb rfl rfl rfl<|agb rfl rfl rfl<|pq<|W.seq ?_
 refine W.region rfl ?_
 refine c0 (fun h' hE hL=>YQ _ h') (fun v A1 hs=>?_)
 refine c0 (fun h' hE hL=>afF _ h') (fun v2 A6 hl=>?_)
 refine Ops.NK (cs:= #[I 6,I 6,I 2]) (fun βl=>?_) rfl
 refine cp (fun h' hE hL=>amZ _ h' s3 l3 [6,6,2] 2 _ _ _ (hs.sl fun b o hb=>hL b o (by simp[hb])) (hl.sl fun b o hb=>hL b o (by simp[hb])) (Sl.mk (hL βl _ (.head _)) rfl (Part.all [I 6,I 6,I 2]))) ?_
 rw[ayI]
 refine Ops.sb (F':=S24++([])) (.skip rfl (.left (.left .refl hs.shut) hl.shut)) ?_
 clear hs hl
 refine qm rfl rfl rfl<|oq (bD rfl rfl rfl) rfl wn rfl rfl<|oq (bD rfl rfl rfl) rfl wn rfl rfl<|agb rfl rfl rfl<|agb rfl rfl rfl<|pq<|W.seq<|W.region rfl ?_
 refine c0 (fun h' hE hL=>YQ _ h') (fun v A1 hs=>?_)
 refine c0 (fun h' hE hL=>afF _ h') (fun v2 A6 hl=>?_)
 refine Ops.NK (cs:= #[I 6,I 6,I 2]) (fun βl=>?_) rfl
 refine cp (fun h' hE hL=>amZ _ h' s3 l3 [6,6,2] 0 _ _ _ (hs.sl fun b o hb=>hL b o (by simp[hb])) (hl.sl fun b o hb=>hL b o (by simp[hb])) (Sl.mk (hL βl _ (.head _)) rfl (Part.all [I 6,I 6,I 2]))) ?_
 rw[ayJ]
 refine Ops.sb (F':=S24++([])) (.skip rfl (.left (.left .refl hs.shut) hl.shut)) ?_
 clear hs hl
 refine qm rfl rfl rfl<|oq (bD rfl rfl rfl) rfl wn rfl rfl<|oq (bD rfl rfl rfl) rfl wn rfl rfl<|agb rfl rfl rfl<|agb rfl rfl rfl<|pq<|W.seq<|W.region rfl ?_
 refine c0 (fun h' hE hL=>YQ _ h') (fun v A1 hs=>?_)
 refine c0 (fun h' hE hL=>afF _ h') (fun v2 A6 hl=>?_)
 refine Ops.NK (cs:= #[I 6,I 6,I 2]) (fun βl=>?_) rfl
 refine cp (fun h' hE hL=>amZ _ h' s3 l3 [6,6,2] 3 _ _ _ (hs.sl fun b o hb=>hL b o (by simp[hb])) (hl.sl fun b o hb=>hL b o (by simp[hb])) (Sl.mk (hL βl _ (.head _)) rfl (Part.all [I 6,I 6,I 2]))) ?_
 rw[ayK]
 refine Ops.sb (F':=S24++([])) (.skip rfl (.left (.left .refl hs.shut) hl.shut)) ?_
 clear hs hl
 refine qm rfl rfl rfl<|oq (bD rfl rfl rfl) rfl wn rfl rfl<|oq (bD rfl rfl rfl) rfl wn rfl rfl<|agb rfl rfl rfl<|pq<|W.seq<|W.region rfl ?_
 refine c0 (fun h' hE hL=>YQ _ h') (fun v A1 hs=>?_)
 refine c0 (fun h' hE hL=>afF _ h') (fun v2 A6 hl=>?_)
 refine cp (fun h' hE hL=>avw _ h' s3 l3 _ _ (hs.sl fun b o hb=>hL b o (by simp[hb])) (hl.sl fun b o hb=>hL b o (by simp[hb]))) ?_
 rw[ayL]
 refine Ops.sb (F':=S24++([])) (.left (.left .refl hs.shut) hl.shut) ?_
 clear hs hl
 refine qm rfl rfl rfl<|oq (bD rfl rfl rfl) rfl wn rfl rfl<|oq (bD rfl rfl rfl) rfl wn rfl rfl<|agb rfl rfl rfl<|agb rfl rfl rfl<|pq<|W.seq<|W.region rfl ?_
 refine c0 (fun h' hE hL=>ad1 _ h') (fun v A1 hs=>?_)
 refine c0 (fun h' hE hL=>afF _ h') (fun v2 A6 hl=>?_)
 refine cp (fun h' hE hL=>avw _ h' t3 l3 _ _ (hs.sl fun b o hb=>hL b o (by simp[hb])) (hl.sl fun b o hb=>hL b o (by simp[hb]))) ?_
 rw[ayM]
 refine Ops.sb (F':=S24++([])) (.left (.left .refl hs.shut) hl.shut) ?_
 clear hs hl
 refine qm rfl rfl rfl<|oq (bD rfl rfl rfl) rfl wn rfl rfl<|oq (bD rfl rfl rfl) rfl wn rfl rfl<|agb rfl rfl rfl<|agb rfl rfl rfl<|pq<|W.seq<|W.region rfl<|qm rfl rfl rfl ?_
 refine KU (u:=.bool true) (nD rfl rfl rfl) rfl rfl wn rfl rfl ?_
 refine qm rfl rfl rfl ?_
 refine oq (aN rfl rfl) rfl (ak rfl rfl rfl) rfl rfl ?_
 refine KU (u:=.bool true) (nD rfl rfl rfl) rfl rfl (ak rfl rfl rfl) rfl rfl ?_
 refine agW (dG rfl rfl rfl) rfl ?_
 refine qm rfl rfl rfl ?_
 refine oq (aN rfl rfl) rfl (ak rfl rfl rfl) rfl rfl ?_
 refine KU (u:=.bool true) (nD rfl rfl rfl) rfl rfl (ak rfl rfl rfl) rfl rfl ?_
 refine agW (dG rfl rfl rfl) rfl ?_
 refine qm rfl rfl rfl ?_
 refine oq (aN rfl rfl) rfl (ak rfl rfl rfl) rfl rfl ?_
 refine KU (u:=.bool true) (nD rfl rfl rfl) rfl rfl (ak rfl rfl rfl) rfl rfl ?_
 refine agW (dG rfl rfl rfl) rfl ?_
 refine qm rfl rfl rfl ?_
 refine oq (aN rfl rfl) rfl (ak rfl rfl rfl) rfl rfl ?_
 refine KU (u:=.bool true) (nD rfl rfl rfl) rfl rfl (ak rfl rfl rfl) rfl rfl ?_
 refine agW (dG rfl rfl rfl) rfl ?_
 refine qm rfl rfl rfl ?_
 refine oq (aN rfl rfl) rfl (ak rfl rfl rfl) rfl rfl ?_
 refine KU (u:=.bool true) (nD rfl rfl rfl) rfl rfl (ak rfl rfl rfl) rfl rfl ?_
 refine agW (dG rfl rfl rfl) rfl ?_
 refine qm rfl rfl rfl ?_
 refine oq (aN rfl rfl) rfl (ak rfl rfl rfl) rfl rfl ?_
 refine KU (u:=.bool true) (nD rfl rfl rfl) rfl rfl (ak rfl rfl rfl) rfl rfl ?_
 refine agW (dG rfl rfl rfl) rfl ?_
 refine qm rfl rfl rfl ?_
 refine oq (aN rfl rfl) rfl (ak rfl rfl rfl) rfl rfl ?_
 refine KU (u:=.bool true) (nD rfl rfl rfl) rfl rfl (ak rfl rfl rfl) rfl rfl ?_
 refine agW (dG rfl rfl rfl) rfl ?_
 refine qm rfl rfl rfl ?_
 refine oq (aN rfl rfl) rfl (ak rfl rfl rfl) rfl rfl ?_
 refine KU (u:=.bool true) (nD rfl rfl rfl) rfl rfl (ak rfl rfl rfl) rfl rfl ?_
 refine agW (dG rfl rfl rfl) rfl ?_
 refine qm rfl rfl rfl ?_
 refine oq (aN rfl rfl) rfl (ak rfl rfl rfl) rfl rfl ?_
 refine KU (u:=.bool true) (nD rfl rfl rfl) rfl rfl (ak rfl rfl rfl) rfl rfl ?_
 refine agW (dG rfl rfl rfl) rfl ?_
 refine qm rfl rfl rfl ?_
 refine oq (aN rfl rfl) rfl (ak rfl rfl rfl) rfl rfl ?_
 refine KU (u:=.bool true) (nD rfl rfl rfl) rfl rfl (ak rfl rfl rfl) rfl rfl ?_
 refine agW (dG rfl rfl rfl) rfl ?_
 refine qm rfl rfl rfl ?_
 refine oq (aN rfl rfl) rfl (ak rfl rfl rfl) rfl rfl ?_
 refine Ops.NK (cs:= #[I 0,I 1,I (-1)]) (fun βe=>?_) rfl
 refine cp (u:=.bool true) (fun h' hE hL=>Iw _ h' [0,1,-1] _ _ (h24.sl (fun b o hb=>hL b o (by simp[hb]))) (Sl.mk (hL βe _ (.head _)) rfl (Part.all [I 0,I 1,I (-1)])) (by simp)) ?_
 refine Ops.sb (.skip rfl .refl) ?_
 refine agW (dG rfl rfl rfl) rfl ?_
 refine agb rfl rfl rfl<|pq<|W.ret ?_
 exact lvq rfl (hs:=(ayZ.app .nil))
end Go.aS

/- Slices of structs of numbers, as they are handed in. Conditions: none; over any program. -/
namespace Go.aS
def aoW(P:Program)(t:TypeId)(w:Nat):Prop:=P.cellsOf t=w∧∀{H:Type} {enc:TypeId×Value→H} {W:World} {base:Nat} {spare:Nat→Bool} {held:Bool} {fuel:Nat} {cs:List Value} {x:DataW H×List MemPlace},DataW.trod enc P W base spare held fuel t cs=some x→∃ns:List Int,cs=ns.map nI∧ns.length=w
theorem aoW.int{P:Program}{t:TypeId}(ht:P.underlying t=some (.int .i64))(hc:P.cellsOf t=1):aoW P t 1:=⟨hc,fun h=>by
 obtain⟨n,rfl,-,-⟩:=DataW.trod_int ht h
 exact⟨[n],rfl,rfl⟩⟩
def aqg(P:Program):List Field→List Nat→Nat→Prop
 | [],[],_=>True
 | f::fs,w::ws,o=>f.offset=o∧aoW P f.type w∧aqg P fs ws (o+w)
 | _,_,_=>False
theorem apx{P:Program}{H:Type}{enc:TypeId×Value→H}{W:World}{base:Nat}{spare:Nat→Bool}{held:Bool}{n:Nat}{cs:List Value}:∀(fs:List Field) (ws:List Nat) (o:Nat),aqg P fs ws o→(∀f∈fs,∃x,DataW.trod enc P W base spare held n f.type ((cs.drop f.offset).take (P.cellsOf f.type))=some x)→o+ws.sum=cs.length→∃ns:List Int,cs.drop o=ns.map nI∧ns.length=ws.sum
 | [],[],o,_,_,hl=>⟨[],by simp at hl;simp;omega,rfl⟩
 | f::fs,w::ws,o,⟨ho,⟨hc,hr⟩,hrest⟩,hx,hl=>by
  obtain⟨x,h1⟩:=hx f (List.mem_cons_self ..)
  obtain⟨ns,h2,h3⟩:=hr h1
  rw[List.sum_cons]at hl
  obtain⟨ms,h4,h5⟩:=apx fs ws (o+w) hrest (fun g hg=>hx g (List.mem_cons_of_mem _ hg)) (by omega)
  subst ho
  rw[hc]at h2
  refine⟨ns++ms,?_,by rw[List.length_append,h3,h5,List.sum_cons]⟩
  rw[List.map_append,←h2,←h4,←List.drop_drop,List.take_append_drop]
 | [],_::_,_,h,_,_=>h.elim
 | _::_,[],_,h,_,_=>h.elim
theorem aoW.struct{P:Program}{t:TypeId}{fs:Array Field}{ws:List Nat}(ht:P.underlying t=some (.struct fs))(hl:aqg P fs.toList ws 0)(hc:P.cellsOf t=ws.sum):aoW P t ws.sum:=⟨hc,fun{H enc W base spare held fuel cs x} h=>by
 obtain⟨xs,n,-,-,h1,h2,h3⟩:=DataW.trod_struct ht h
 have:=apx (cs:=cs) fs.toList ws 0 hl (fun f hf=>by
  obtain⟨i,hi⟩:=List.mem_iff_getElem?.1 hf
  have hi':fs[i]? =some f:=by simpa using hi
  have hlt:i<xs.length:=by
   rw[h2]
   rcases Nat.lt_or_ge i fs.size with h | h
   ·exact h
   ·rw[Array.getElem?_eq_none h]at hi';cases hi'
  exact⟨xs[i],by rw[h3 i f hi',List.getElem?_eq_getElem hlt]⟩) (by omega)
 simpa using this⟩
theorem aoW.val{P:Program}{t w:Nat}(R:aoW P t w){H:Type}{enc:TypeId×Value→H}{W:World}{base:Nat}{spare:Nat→Bool}{held:Bool}{v:Value}{d:DataW H}{ps:List MemPlace}(h:DataW.Trod enc P W base spare held t v d ps):∃ns:List Int,v.cells.toList=ns.map nI∧ns.length=w:=by
 obtain⟨fuel,h⟩:=h
 exact R.2 h

theorem apB{W:World}{base n:Nat}{a:Addr}{cs:List Value}(h:W.cells? base a n=some cs):cs.length=n∧∀i,i<n→W.cell? (a.add i)=cs[i]? :=by
 unfold World.cells? at h
 split at h
 ·have h1:=mapM_some_length h
  rw[List.length_range]at h1
  exact⟨h1,fun i hi=>mapM_some_get h i i (by simp[hi])⟩
 ·cases h
theorem aoW.slice{P:Program}{e t w:Nat}(R:aoW P e w)(hw:0<w){α:Type}{row:α→List Value}[Rw row w](mk:∀ns:List Int,ns.length=w→∃p:α,row p=ns.map nI)(ht:P.underlying t=some (.slice e)){H:Type}{enc:TypeId×Value→H}{W:World}{base:Nat}{spare:Nat→Bool}{held:Bool}{v:Value}{fuel:Nat}{x:DataW H×List MemPlace}(hf:DataW.trod enc P W base spare held fuel t [v]=some x):∃l:List α,Sl (atStart W) row v l:=by
 rcases DataW.trod_slice ht hf with⟨hcs,-⟩ | ⟨a,len,cap,elems,rest,n,-,hcs,-,hb,hle,hm,hlen,hel,-,-⟩
 ·obtain rfl:v= .slice none 0 0:=by simpa using hcs
  exact⟨[],.nil⟩
 ·obtain rfl:v= .slice (some a) len cap:=by simpa using hcs
  rw[R.1]at hel
  have each:∀i,i<len→∃p:α,∀j,j<w→W.cell? ((a.add (i*w)).add j)=(row p)[j]? :=fun i hi=>by
   have h1:=hel i hi
   rw[List.getElem?_eq_getElem (by omega),Option.bind_eq_some_iff]at h1
   obtain⟨cs,h2,h3⟩:=h1
   obtain⟨ns,rfl,h4⟩:=R.2 h3
   obtain⟨p,hp⟩:=mk ns h4
   refine⟨p,fun j hj=>?_⟩
   rw[(apB h2).2 j hj,hp]
  have all:∀m,m≤len→∃l:List α,l.length=m∧∀i p,l[i]? =some p→∀j,j<w→W.cell? ((a.add (i*w)).add j)=(row p)[j]? :=by
   intro m
   induction m with
   | zero=>intro _;exact⟨[],rfl,fun i p hp=>by simp at hp⟩
   | succ m ih=>
    intro hm
    obtain⟨l,h1,h2⟩:=ih (by omega)
    obtain⟨p,hp⟩:=each m (by omega)
    refine⟨l++[p],by simp[h1],fun i q hq=>?_⟩
    rcases Nat.lt_or_ge i l.length with h | h
    ·rw[List.getElem?_append_left h]at hq;exact h2 i q hq
    ·have hlt:=lt_of_some hq
     simp at hlt
     have:i=m:=by omega
     subst this
     rw[List.getElem?_append_right h,show i-l.length=0 by omega]at hq
     simp at hq
     subst hq
     exact hp
  obtain⟨l,hl,hc⟩:=all len (Nat.le_refl _)
  refine⟨l,some a,cap,by rw[hl],fun hne=>?_⟩
  have hpos:0<len:=by
   rcases Nat.eq_zero_or_pos len with h | h
   ·subst h;exact absurd (List.eq_nil_of_length_eq_zero hl) hne
   ·exact h
  obtain⟨b,off,spot⟩:=a
  have hsp:spot=none:=by
   obtain⟨p,hp,-⟩:=has (show 0<l.length by omega)
   have h0:=hc 0 p hp 0 hw
   have hrw:(row p).length=w:=Rw.len p
   rw[List.getElem?_eq_getElem (by omega)]at h0
   cases hs:spot with
   | none=>rfl
   | some s=>
    subst hs
    exfalso
    simp only[Nat.zero_mul,World.cell?,Addr.add,if_true]at h0
    split at h0
    ·simp at h0
    ·cases h0
  subst hsp
  have cell:∀k,k<(flat row l).length→∃c E fz,W.heap[b]? =some (.cells c E fz)∧c[off+k]? =(flat row l)[k]? :=fun k hk=>by
   rw[jT]at hk
   have hi:k / w<l.length:=Nat.div_lt_of_lt_mul (by rw[Nat.mul_comm];exact hk)
   have hj:k % w<w:=Nat.mod_lt _ hw
   obtain⟨p,hp,-⟩:=has hi
   have h1:=hc _ p hp _ hj
   have hrw:(row p).length=w:=Rw.len p
   have e1:k / w*w+k % w=k:=Nat.div_add_mod' k w
   have h2:(flat row l)[k]? =(row p)[k % w]? :=by
    have hP:Part (flat row l).toArray 0 (flat row l):=Part.all _
    have h3:=hP.Bo hp (k % w) hj
    rw[Nat.zero_add,e1]at h3
    simpa using h3
   have ea:((⟨b,off,none⟩:Addr).add (k / w*w)).add (k % w)=⟨b,off+k,none⟩:=by
    have e2:(⟨b,off,none⟩:Addr).add (k / w*w)=⟨b,off+k / w*w,none⟩:=jE rfl _
    rw[e2,jE rfl]
    simp only[Addr.mk.injEq,true_and,and_true]
    omega
   rw[ea]at h1
   rw[h2]
   rw[List.getElem?_eq_getElem (show k % w<(row p).length by omega)]at h1⊢
   simp only[World.cell?]at h1
   split at h1
   ·rename_i c E fz hb
    exact⟨c,E,fz,hb,by simpa using h1⟩
   ·cases h1
  have hfl:=jT (row:=row) l
  have apK:0<(flat row l).length:=by rw[hfl];exact Nat.mul_pos (by omega) hw
  obtain⟨c,E,fz,hb',h0⟩:=cell 0 apK
  refine⟨b,off,c,E,fz,rfl,ku.2 ⟨hb',rfl⟩,Part.ace (fun j hj=>?_) (fun e=>by rw[e]at apK;simp at apK)⟩
  obtain⟨c',E',fz',hb2,hj'⟩:=cell j hj
  rw[hb']at hb2
  cases hb2
  exact hj'
end Go.aS

/- From a law of pans, lots and numbers that answers true to its card, time passing meanwhile. Conditions: as the cards say; over the given program. -/
namespace Go.aS
open Go.Proofs.YtkkdgffaohidnaaGreatDoor
set_option maxRecDepth 100000
set_option maxHeartbeats 4000000
section
open Go.ChangeShapes Go.WideShapes Go.RowKit
theorem aoX:aoW prog dL 1:=aoW.int VX VY
theorem apL:aoW prog Ag 3:=aoW.struct (ws:=[1,1,1]) (TD.out (t:=Ag)) ⟨rfl,aoX,rfl,aoX,rfl,aoX,trivial⟩ (by kernel_rfl)
theorem aqh:aoW prog XI 2:=aoW.struct (ws:=[1,1]) (TD.out (t:=XI)) ⟨rfl,aoX,rfl,aoX,trivial⟩ (by kernel_rfl)
theorem aqS:∀ns:List Int,ns.length=3→∃p:Pn,p.row=ns.map nI
 | [a,b,c],_=>⟨⟨a,b,c⟩,rfl⟩
theorem mkLt:∀ns:List Int,ns.length=2→∃p:Lt,p.row=ns.map nI
 | [a,b],_=>⟨⟨a,b⟩,rfl⟩
theorem mkI:∀ns:List Int,ns.length=1→∃p:Int,fH p=ns.map nI
 | [a],_=>⟨a,rfl⟩

structure ap8(h:Hp)(t:TypeId)(v:Value):Prop where
 arK:t=aoG→∃l,Sl h Pn.row v l
 pan:t=Ag→∃p:Pn,v=p.val
 lots:t=apa→∃l,Sl h Lt.row v l
 int:t=dL→∃n,v=I n
 ints:t=nS→∃l,Sl h fH v l
def apv(h:Hp):List TypeId→List Value→Prop
 | [],[]=>True
 | t::ts,v::vs=>ap8 h t v∧apv h ts vs
 | _,_=>False
theorem aqi{H:Type}{enc:TypeId×Value→H}{W:World}{n:Nat}{t:TypeId}{v:Value}{d:DataW H}{ps:List MemPlace}(hv:Value.okWide prog W .any n t v)(h:DataW.Trod enc prog W 0 (fun _=>true) true t v d ps):ap8 (atStart W) t v:=by
 refine⟨?_,?_,?_,?_,?_⟩
 ·rintro rfl
  obtain⟨a,len,cap,rfl⟩:=okWide_slice (TD.out (t:=aoG)) hv
  obtain⟨fuel,h⟩:=h
  exact apL.slice (row:=Pn.row) (by decide) aqS (TD.out (t:=aoG)) h
 ·rintro rfl
  obtain⟨cs,rfl,hc⟩:=okWide_struct (TD.out (t:=Ag)) hv
  obtain⟨ns,h1,h2⟩:=apL.val h
  obtain⟨p,hp⟩:=aqS ns h2
  refine⟨p,?_⟩
  have:cs.toList=p.row:=by rw[hp];exact h1
  rw[show cs=p.row.toArray by rw[←this]]
  rfl
 ·rintro rfl
  obtain⟨a,len,cap,rfl⟩:=okWide_slice (TD.out (t:=apa)) hv
  obtain⟨fuel,h⟩:=h
  exact aqh.slice (row:=Lt.row) (by decide) mkLt (TD.out (t:=apa)) h
 ·rintro rfl
  obtain⟨ns,h1,h2⟩:=aoX.val h
  obtain⟨n,rfl⟩:=okWide_int VX hv
  exact⟨n,rfl⟩
 ·rintro rfl
  obtain⟨a,len,cap,rfl⟩:=okWide_slice EX hv
  obtain⟨fuel,h⟩:=h
  exact aoX.slice (row:=fH) (by decide) mkI EX h
theorem apC{H:Type}{enc:TypeId×Value→H}{W:World}{n:Nat}:∀{ts:List TypeId} {vs:List Value} {ds:List (DataW H)} {ps:List MemPlace},(∀(j:Nat) t v,ts[j]? =some t→vs[j]? =some v→Value.okWide prog W .any n t v)→DataW.TrodAll enc prog W 0 (fun _=>true) true ts vs ds ps→apv (atStart W) ts vs∧ds.length=ts.length
 | [],[],ds,ps,_,h=>by
  cases ds with
  | nil=>exact⟨trivial,rfl⟩
  | cons d ds=>exact h.elim
 | [],_::_,_,_,_,h=>h.elim
 | _::_,[],_,_,_,h=>h.elim
 | t::ts,v::vs,[],_,_,h=>h.elim
 | t::ts,v::vs,d::ds,ps,hv,h=>by
  obtain⟨p,q,h1,h2,-⟩:=h
  obtain⟨h3,h4⟩:=apC (fun j t v a b=>hv (j+1) t v (by simpa using a) (by simpa using b)) h2
  exact⟨⟨aqi (hv 0 t v rfl rfl) h1,h3⟩,by simp[h4]⟩
theorem apt{H:Type}{enc:TypeId×Value→H}{W W':World}(hb:Below W.heap.size W W'):∀{ts:List TypeId} {vs:List Value} {ds:List (DataW H)} {ps:List MemPlace},(∀t∈ts,prog.readableRec t=true∧t<prog.types.size)→DataW.TrodAll enc prog W 0 (fun _=>true) true ts vs ds ps→(∀x∈ps,x.block<W.heap.size)→DataW.TrodAll enc prog W' 0 (fun b=>decide (b<W.heap.size)) true ts vs ds ps
 | [],[],ds,ps,_,h,_=>by
  cases ds with
  | nil=>exact h
  | cons d ds=>exact h.elim
 | [],_::_,_,_,_,h,_=>h.elim
 | _::_,[],_,_,_,h,_=>h.elim
 | t::ts,v::vs,[],_,_,h,_=>h.elim
 | t::ts,v::vs,d::ds,ps,ht,h,hlt=>by
  obtain⟨p,q,h1,h2,rfl⟩:=h
  exact⟨p,q,Below.trod YR (ht t (List.mem_cons_self ..)).1 (ht t (List.mem_cons_self ..)).2 h1 hb (fun x hx=>hlt x (List.mem_append_left _ hx)),apt hb (fun t h=>ht t (List.mem_cons_of_mem _ h)) h2 (fun x hx=>hlt x (List.mem_append_right _ hx)),rfl⟩
theorem aqT{s:ChangeSpec}{f:FuncId}{fn:Func}(os:Go.Os)(started:os.Started)(H:Type)(enc:TypeId×Value→H)(hfn:prog.funcs[f]? =some fn)(hinit:prog.inits.idxOf? f=none)(ts:List TypeId)(hp:fn.params.toList=ts)(hts:∀t∈ts,prog.readableRec t=true∧t<prog.types.size)(hr:fn.resultTypes.toList=[RS])(hrs:fn.resultTypes.size=1)(hv:s.vars=[])
  (hs:∀ds:List (DataW H),ds.length=ts.length→s.fn H ds={results:=[.lit (.bool true)],args:=ds})
  (
   witness:∃(w:World) (tape:Tape) (i:Input),w.os=os∧(w.forCall tape i).Shaped prog∧i.vars=[]∧Input.okWide prog (w.forCall tape i) .any w.heap.size f i∧
   ((s.pre enc prog fn [] false (w.forCall tape i).memory i.args∧laidMetH prog J9 (w.forCall tape i).memory)∧sizedMet enc prog fn (OpenSpec.ofChange s) false (w.forCall tape i).memory i.args)∧({calm:=true}:Assume).holds prog (lone (Frame.enter prog f i.args .normal) [] (w.forCall tape i)))
  (T:∀(main:Side) (_:∀S,main.ok S→∃Fin,S=Mo prog Fin) (_:main.b=true) (h:Hp) (args:List Value) (_:apv h ts args) (Eg:TypeId) (zg:Nat×Nat) (_:h 0=some (.cells #[Ur qM] Eg zg)) (_:h.z 0),QE prog main f args.toArray h (.bool true))
  (F:Stop.Interp):ReturnsInLeavingWide {calm:=true} Go.Proofs.Tryz.checked os f .any (fun w args=>(s.pre enc prog fn [] false w args∧laidMetH prog J9 w)∧sizedMet enc prog fn (OpenSpec.ofChange s) false w args) ((OpenSpec.ofChange s).postWith enc prog fn F (outsideKept [.timePasses]) false true false):=by
 refine returnsInLeavingWide_of_good (C:=Go.Proofs.Tryz.checked) afH started witness ?_
 intro w tape i _ _ _ hok hpre _
 obtain⟨_,_,_,fn',hfn',_,_,_,_,hval0⟩:=hok
 have e:fn'=fn:=Option.some.inj (hfn'.symm.trans hfn)
 subst e
 obtain⟨⟨⟨ds,gs,before,hw,-⟩,hx⟩,-⟩:=hpre
 have hW:=DataW.Whole.of_heap (w':=w.forCall tape i) (by rfl) hw
 have hL:laidMetH prog J9 (w.forCall tape i):=Ld (by rfl) hx
 generalize w.forCall tape i=W at*
 have hval:∀(j:Nat) t v,fn'.params[j]? =some t→i.args[j]? =some v→Value.okWide prog W .any w.heap.size t v:=hval0
 have hW':=hW
 obtain⟨p,q,hA0,hV,rfl,_,_⟩:=hW
 have hA:DataW.TrodAll enc prog W 0 (fun _=>true) true fn'.params.toList i.args.toList ds p:=hA0
 rw[hp]at hA
 obtain⟨hao,hdl⟩:=apC (n:=w.heap.size) (fun j t v a b=>hval j t v (by rw[←Array.getElem?_toList,hp];exact a) (by rw[←Array.getElem?_toList];exact b)) hA
 rw[hv]at hV
 obtain⟨rfl,rfl⟩:=trodVars_none hV
 simp only[List.append_nil]at hW'
 have hlt:∀x∈p,x.block<W.heap.size:=fun x hx=>by simpa using hW'.lt x hx
 obtain⟨E,z,hg⟩:=aaH hL
 have hgs:atStart W 0=some (.cells #[Ur qM] E z):=ku.2 ⟨hg,rfl⟩
 obtain⟨M,last,o,w',t',h1,h2,h3,h4⟩:=QE.run hinit (T (GI prog (tZ prog fun v _=>v= .bool true)) (fun S h=>⟨_,h⟩) rfl (atStart W) i.args.toList hao E z hgs ⟨_,hg,rfl⟩)
 refine⟨M,last,o,w',t',h1,h2,h3,h4.mono fun v hF=>?_⟩
 obtain⟨rfl,hk⟩:=hF
 have hb:=hk.below
 refine postWith_blind (postWith_of_post ⟨ds,[],p,[],p,[],hW',?_,?_,?_,hb.frame _,fun h=>by cases h⟩ hk.os)
 ·have hrl:Value.resultList fn'.resultTypes.size (.bool true)=[.bool true]:=by rw[hrs];rfl
  rw[List.append_nil,hs ds hdl,hrl,hr];exact trodAll_mk1 (shut_bool SS true)
 ·rw[List.append_nil,hs ds hdl,hp]
  exact apt hb hts hA hlt
 ·rw[List.append_nil,hs ds hdl,hv];rfl
end
end Go.aS

/- SyrupKnown's card. Conditions: as the card says; over the given program. -/
namespace Go.Proofs.YtkkdgffaohidnaaGreatDoor
open Go Go.aS
set_option maxRecDepth 100000
set_option maxHeartbeats 4000000
theorem awm(main:Side)(hS:∀S,main.ok S→∃Fin,S=Mo prog Fin)(hmb:main.b=true)(h:Hp):∀(args:List Value) (_:apv h [] args) (Eg:TypeId) (zg:Nat×Nat) (_:h 0=some (.cells #[Ur qM] Eg zg)) (_:h.z 0),QE prog main av4 args.toArray h (.bool true)
 | [],_,Eg,zg,hg,z0=>by

  apply awx main hS hmb h
  all_goals first | assumption | exact hg | exact z0
 | v0::r,h,_,_,_,_=>h.elim
theorem awk:joinedFacts prog av4 av5 Rows.syrupKnownSpec Rows.syrupKnownRow=true:=by
 unfold joinedFacts
 repeat' with_reducible refine Bool.and_eq_true_iff.2 ⟨?_,?_⟩
 all_goals first
  | with_reducible exact aci
  | (with_reducible refine makeT ?_;kernel_rfl)
  | (with_reducible refine aeb ?_;kernel_rfl)
  | (as_aux_lemma=>kernel_rfl)
theorem awe:prog.funcNamed Rows.syrupKnownRow.func=some av4:=by kernel_rfl
theorem awn:prog.mainIs=some (true, "dbc29bbb9727fbebaf7429f7266f9d82b5a02ec0969210b724e1ed2dac66cc8d".toList):=ad9
theorem aww:true=Rows.syrupKnownRow.goesBy prog:=by kernel_rfl
theorem awl:true=prog.looks []:=by kernel_rfl
theorem awy:Rows.SyrupKnownSaid:=
 OpenClaim.holds_of_wide_leaving_time av4 av5 rfl rfl rfl rfl rfl rfl rfl ⟨rfl,rfl,rfl,rfl,rfl⟩ rfl rfl rfl rfl rfl awe awc awk
  (of_decide_eq_true (by kernel_rfl)) (by unfold Func.isWrapper;first | (rw[if_pos (by decide+kernel)];kernel_rfl) | (rw[if_neg (by decide+kernel)];exact⟨rfl,rfl⟩))
  (
   fun os started H enc _ F=>aqT (s:=Rows.syrupKnownSpec) os started H enc awc (by kernel_rfl) [] (by kernel_rfl) (fun t ht=>by
    have h0:([]:List TypeId).all (fun t=>prog.readableRec t&&Nat.blt t prog.types.size)=true:=by kernel_rfl
    have h1:=List.all_eq_true.1 h0 t ht
    rw[Bool.and_eq_true]at h1
    exact⟨h1.1,Nat.le_of_ble_eq_true h1.2⟩) (by kernel_rfl) (by kernel_rfl) rfl (fun ds hd=>by
    match ds,hd with
    | [],_=>rfl)
   (OB (enc:=enc) (C:=Tryz.checked) (os:=os) (X:=fun w _=>laidMetH prog J9 w) (laidWorld os) #[] 8 rfl (by kernel_rfl) (by kernel_rfl) (by kernel_rfl) (by kernel_rfl) (by kernel_rfl) (laidWorld_met os _))
   (fun main hS hmb h args ha Eg zg hg z0=>awm main hS hmb h args ha Eg zg hg z0) F)

theorem SyrupKnown_card:Rows.SyrupKnownCardSaid:=
 VZ .later [] [.handle] true (true, "dbc29bbb9727fbebaf7429f7266f9d82b5a02ec0969210b724e1ed2dac66cc8d") true
  awy (fun _ h=>by cases h) (by kernel_rfl) (fun _ h=>by cases h) syrupKnown_row_tie rfl ⟨rfl,rfl⟩ awn rfl
  (
   fun f fn hf hfn=>by
   obtain rfl:f=av4:=(Option.some.inj (awe.symm.trans hf)).symm
   obtain rfl:fn=av5:=(Option.some.inj (awc.symm.trans hfn)).symm
   exact⟨awl,fun j t ht=>by
    rw[show(av5).params= #[] by kernel_rfl]at ht
    simp at ht⟩)
  aww
#print axioms SyrupKnown_card
end Go.Proofs.YtkkdgffaohidnaaGreatDoor
