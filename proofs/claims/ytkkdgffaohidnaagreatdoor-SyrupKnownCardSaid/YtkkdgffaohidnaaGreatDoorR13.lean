/- Pans that fall; copies; things beside each other. Conditions: none; over the given program. (And 7 texts more.) -/
import Derived.Test.YtkkdgffaohidnaaGreatDoorR12
import Derived.Test.YtkkdgffaohidnaaGreatDoorR10
import Derived.Test.YtkkdgffaohidnaaGreatDoorR11
import Derived.Test.YtkkdgffaohidnaaGreatDoorR06
import Derived.Test.YtkkdgffaohidnaaGreatDoorR07
import Derived.Conc.LeavingOf
import Derived.Conc.HoldsTime
import Derived.LaidLaws
import Derived.LaidHandle
import Derived.ChangeSlices
import Derived.WideShapes
import Derived.Carry
import Derived.RowKit
import Derived.Test.YtkkdgffaohidnaaGreatDoorR08
import Derived.Test.YtkkdgffaohidnaaGreatDoorCards
import Derived.Test.YtkkdgffaohidnaaGreatDoorTie
import Derived.SevenTiedAt
set_option linter.unusedVariables false
set_option linter.unusedSimpArgs false
set_option linter.unusedSectionVars false

/- Pans that fall; copies; things beside each other. Conditions: none; over the given program. -/
namespace Go.aS
set_option maxRecDepth 100000
set_option maxHeartbeats 4000000
theorem MG{α:Type}{l:List α}{i:Nat}{p:α}(h:l[i]? =some p):l.take (i+1)=l.take i++[p]:=by
 rw[List.take_add_one,h];rfl
instance:NS prog Ag:=⟨by kernel_rfl,by kernel_rfl⟩
instance:NS prog XI:=⟨by kernel_rfl,by kernel_rfl⟩
theorem VU(main:Side)(h:Hp)(l l':List Int)(v v':Value)(hl:Sl h fH v l)(hl':Sl h fH v' l')(hn:l.length≤100000):Pu prog main wY #[v,v'] h (.bool (decide (l=l'))):=by
 obtain⟨a,cap,rfl⟩:=hl.dA
 obtain⟨a',cap',rfl⟩:=hl'.dA
 refine dV.aG KA rfl (by show 2≤32;decide) [(0,.slice a l.length cap),(1,.slice a' l'.length cap')] ⟨rfl,rfl,trivial⟩ ?_
 refine W.seq<|W.region rfl<|agb rfl rfl rfl<|pq<|W.seq<|W.seq<|W.region rfl<|agb rfl rfl rfl<|Ops.nil ?_
 refine aA<|W.block ?_
 refine W.loop (σ:=Nat) (fun k=>k≤l.length∧k≤l'.length∧l.take k=l'.take k) (fun k=>[(5,I k),(0,.slice a l.length cap),(1,.slice a' l'.length cap')]) (fun _=>[]) (fun k=>l.length-k) 0 ⟨Nat.zero_le _,Nat.zero_le _,rfl⟩ ⟨rfl,rfl,rfl,trivial⟩ TW ?_
 rintro k ⟨hk,hk',he⟩
 refine W.seq<|W.seq<|W.region rfl<|qm rfl rfl rfl<|qm rfl rfl rfl ?_
 refine agW (dM rfl rfl) rfl ?_
 refine agW (fO rfl rfl rfl) rfl ?_
 refine qm rfl rfl rfl ?_
 refine Ops.ask (fun afD=>?_) (fun afD=>?_)
 ·refine oq (aN rfl rfl) rfl (ak rfl rfl rfl) rfl rfl ?_
  refine oq (aN rfl rfl) rfl (ak rfl rfl rfl) rfl rfl ?_
  refine oq (dM rfl rfl) rfl (ak rfl rfl rfl) rfl rfl ?_
  refine oq (fO rfl rfl rfl) rfl (ak rfl rfl rfl) rfl rfl ?_
  refine agW (dG rfl rfl rfl) rfl ?_
  refine pq ?_
  refine W.bC rfl (fun c15=>?_) (fun c15=>?_)
  ·obtain⟨p,hp,-⟩:=has (show k<l.length by omega)
   obtain⟨q,hq,-⟩:=has (show k<l'.length by omega)
   obtain⟨b,off,c,E,fz,rfl,hb,-,hy1,hz1⟩:=hl.at hp
   have hx2:c[off+k*1+0]? =some (I p):=hz1 0 (by decide)
   clear hz1
   obtain⟨b',off',c',E',fz',rfl,hb',-,hy2,hz1⟩:=hl'.at hq
   have hx3:c'[off'+k*1+0]? =some (I q):=hz1 0 (by decide)
   clear hz1
   refine W.skip<|aA<|W.seq<|W.block<|W.seq ?_
   refine W.rE (n:=9) rfl ?_
   refine xq 0 (aN rfl rfl) rfl ?_
   refine xq 1 (aN rfl rfl) rfl ?_
   first | refine xq 2 (G_ rfl rfl rfl) rfl ?_ | refine xq 2 (o_ rfl rfl rfl) rfl ?_
   refine xq 3 (iQ rfl rfl) rfl ?_
   refine xq 4 (aN rfl rfl) rfl ?_
   refine xq 5 (aN rfl rfl) rfl ?_
   first | refine xq 6 (G_ rfl rfl rfl) rfl ?_ | refine xq 6 (o_ rfl rfl rfl) rfl ?_
   refine xq 7 (iQ rfl rfl) rfl ?_
   refine xq 8 (nG rfl rfl rfl) rfl ?_
   refine az ?_
   refine aA ?_
   refine W.bC rfl (fun c26=>?_) (fun c26=>?_)
   ·refine W.seq<|W.region rfl<|agb rfl rfl rfl<|pq<|W.ret<|cZ<|aY<|aY<|cZ ?_
    refine aY ?_
    refine uZ ?_
    refine congrArg Value.bool (decide_eq_false fun e=>?_).symm
    subst e
    rw[hp]at hq
    cases hq
    exact c26 rfl
   ·refine W.skip<|dI<|aA<|W.region rfl<|qm rfl rfl rfl ?_
    refine ag1 rfl ?_
    refine agb rfl rfl rfl<|pq ?_
    have hpq:p=q:=Decidable.byContradiction c26
    subst hpq
    exact⟨rfl,k+1,⟨by omega,by omega,by rw[MG hp,MG hq,he]⟩,by omega,⟨rfl,rfl,rfl,trivial⟩,TW⟩
  ·refine W.exit<|bP<|bP<|gG<|aA<|W.seq<|W.region rfl<|qm rfl rfl rfl ?_
   refine agW (dM rfl rfl) rfl ?_
   refine qm rfl rfl rfl ?_
   refine agW (dM rfl rfl) rfl ?_
   refine agW (nD rfl rfl rfl) rfl ?_
   refine agb rfl rfl rfl<|pq<|W.ret ?_
   refine uZ ?_
   refine congrArg Value.bool (decide_eq_decide.2 ⟨fun e=>?_,fun e=>?_⟩)
   ·have e':l.length=l'.length:=by omega
    have hkl:k=l.length:=by omega
    rw[←List.take_length (l:=l),←List.take_length (l:=l'),←e',←hkl,he]
   ·rw[e]
 ·refine Ops.no ?_
  refine Ops.no ?_
  refine Ops.no ?_
  refine Ops.no ?_
  refine agW (iH rfl rfl rfl) rfl ?_
  refine pq ?_
  refine W.bZ ?_
  refine W.exit<|bP<|bP<|gG<|aA<|W.seq<|W.region rfl<|qm rfl rfl rfl ?_
  refine agW (dM rfl rfl) rfl ?_
  refine qm rfl rfl rfl ?_
  refine agW (dM rfl rfl) rfl ?_
  refine agW (nD rfl rfl rfl) rfl ?_
  refine agb rfl rfl rfl<|pq<|W.ret ?_
  refine uZ ?_
  refine congrArg Value.bool (decide_eq_decide.2 ⟨fun e=>?_,fun e=>?_⟩)
  ·have e':l.length=l'.length:=by omega
   have hkl:k=l.length:=by omega
   rw[←List.take_length (l:=l),←List.take_length (l:=l'),←e',←hkl,he]
  ·rw[e]

end Go.aS

/- Pans that fall, out of a hat. Conditions: none; over the given program. -/
namespace Go.aS
set_option maxRecDepth 100000
set_option maxHeartbeats 4000000
end Go.aS

/- What is frozen between two operations. Conditions: none; over any program. -/
namespace Go.aS
/-! ### Frozen between operations -/
theorem Ops.freeze{x:Cx}{ops:Array Oper}{l:List Nat}{Q:Post}{ρ:Env}{ds:List Deferred}{F:ah}{b:Nat}{o:Obj}(ho:opn o=false)(H:∀h',Ext x.h h'→h' b=some o→h'.z b→Ops {x with h:=h'} ops l Q ρ ds F):Ops x ops l Q ρ ds ((b,o)::F):=by
 intro fr k cs Stop tmps hk M h1 h0 h2 h3 h4 h5 hc
 obtain⟨S,e,hl⟩:=h5.freeze ho
 have hb:=(h5.own b o (List.mem_cons_self ..)).2.2
 refine CJ.x9 Stop.2.2 _ _ _ _ hl (H _ e (AY _ _ _) (.inl rfl) fr k cs Stop tmps hk _ h1 h0 h2 h3 h4 S fun ex ρ' ds' F' aZ hk' M' q a1 a2 a3 a4=>hc ex ρ' ds' F' aZ hk' M' q a1 a2 (a3.thaw hb ho) fun c' hm hF=>?_)
 have hne:c'≠b:=by rintro rfl;exact hF o (List.mem_cons_self ..)
 exact a4 c' ⟨hm,hne⟩ fun o' ho'=>hF o' (List.mem_cons_of_mem _ ho')
theorem Ops.JU{x:Cx}{ops:Array Oper}{td:List Nat}{Q:Post}{ρ:Env}{ds:List Deferred}{A F:ah}{α:Type}{row:α→List Value}{w:Nat}[Rw row w]{E:TypeId}{v:Value}{l:List α}(hs:Os E row v l A)
  (H:∀h',Ext x.h h'→Sl h' row v l→Zs h' v→Ops {x with h:=h'} ops td Q ρ ds F):Ops x ops td Q ρ ds (A++F):=by
 rcases hs with⟨rfl,rfl,hsh⟩ | ⟨β,cc,cap,J,rfl,rfl,h1,h2,h3,hsh⟩
 ·exact Ops.sb (Sb.left .refl hsh) (H x.h ⟨fun _ _ q=>q,fun _ q=>q⟩ .nil (fun b off n cap e=>by cases e))
 ·refine Ops.freeze (b:=β) rfl fun h' hE hb hz=>?_
  refine Ops.sb (F':=F) (Sb.left .refl hsh) (H h' hE (.mk hb rfl h3) (fun b off n cap e=>by cases e;exact hz))
end Go.aS

/- The examples of the laws come out as they should. Conditions: none; over the given program. -/
namespace Go.aS
set_option maxRecDepth 100000
set_option maxHeartbeats 4000000
def s3:List Pn:=[⟨8,12,-3⟩,⟨4,9,-3⟩,⟨2,5,2⟩]
def t3:List Pn:=[⟨8,12,-3⟩,⟨4,9,-3⟩]
def l3:List Lt:=[⟨9,5⟩,⟨8,4⟩,⟨4,3⟩]
theorem aaE:ET s3 5=([1,2,2,1,2],0):=by kernel_rfl
theorem aaF:Aq s3 12 [0,0,1]=([9,6,3],0):=by kernel_rfl
theorem J8:nV s3=0∧Oo s3=[1]:=⟨by kernel_rfl,by kernel_rfl⟩
theorem YP:AA s3 l3 [6,6,2]=([0,1,-1],9,0):=by kernel_rfl
theorem UE:qh t3 12=((3,2),0):=by kernel_rfl

theorem YQ(main:Side)(h:Hp):dV prog main Uc #[] h [] (fun v A=>Os Ag Pn.row v s3 A):=by
 refine dV.aG XE rfl (by show 0≤5;decide) [] trivial ?_
 refine W.seq<|W.region rfl<|agb rfl rfl rfl<|pq<|W.seq<|W.region rfl ?_
 refine agW (eH rfl rfl rfl) rfl ?_
 refine agW (eH rfl rfl rfl) rfl ?_
 refine agW (eH rfl rfl rfl) rfl ?_
 refine Ops.NK (cs:= #[I 8,I 12,I (-3),I 4,I 9,I (-3),I 2,I 5,I 2]) (fun wC=>?_) rfl
 refine agb rfl rfl rfl<|pq<|W.ret ?_
 exact mg (vs:=[_]) (.inr ⟨wC,_,3,[],rfl,rfl,rfl,Nat.le_refl _,Part.all (flat Pn.row s3),.nil⟩)
theorem ad1(main:Side)(h:Hp):dV prog main Ud #[] h [] (fun v A=>Os Ag Pn.row v t3 A):=by
 refine dV.aG XG rfl (by show 0≤3;decide) [] trivial ?_
 refine W.seq<|W.region rfl<|agb rfl rfl rfl<|pq<|W.seq<|W.region rfl ?_
 refine c0 (fun h' hE hL=>YQ _ h') (fun v A' hv=>?_)
 rcases hv with⟨h9,-⟩ | ⟨β,c,cp,J,rfl,rfl,hc1,hc2,hpt,hJ⟩
 ·cases h9
 refine agW (Vb (m:=2) rfl rfl rfl (.inl rfl) (Nat.le_trans (by decide) hc2)) rfl ?_
 refine agb rfl rfl rfl<|pq<|W.ret ?_
 refine mg (vs:=[_]) (.inr ⟨β,c,cp,J++[],rfl,rfl,hc1,Nat.le_trans (by decide) hc2,?_,hJ.app .nil⟩)
 obtain⟨pre,post,h1,h2⟩:=hpt
 exact⟨pre,[I 2,I 5,I 2]++post,by rw[h1];rfl,h2⟩
theorem afF(main:Side)(h:Hp):dV prog main Ue #[] h [] (fun v A=>Os XI Lt.row v l3 A):=by
 refine dV.aG XH rfl (by show 0≤5;decide) [] trivial ?_
 refine W.seq<|W.region rfl<|agb rfl rfl rfl<|pq<|W.seq<|W.region rfl ?_
 refine agW (eH rfl rfl rfl) rfl ?_
 refine agW (eH rfl rfl rfl) rfl ?_
 refine agW (eH rfl rfl rfl) rfl ?_
 refine Ops.NK (cs:= #[I 9,I 5,I 8,I 4,I 4,I 3]) (fun wC=>?_) rfl
 refine agb rfl rfl rfl<|pq<|W.ret ?_
 exact mg (vs:=[_]) (.inr ⟨wC,_,3,[],rfl,rfl,rfl,Nat.le_refl _,Part.all (flat Lt.row l3),.nil⟩)
theorem Iw(main:Side)(h:Hp)(l:List Int)(v v':Value)(hl:Sl h fH v l)(hl':Sl h fH v' l)(hn:l.length≤100000):Pu prog main wY #[v,v'] h (.bool true):=by
 have:=VU main h l l v v' hl hl' hn
 simpa using this
end Go.aS

/- The examples all laws ask. Conditions: none; over the given program. -/
namespace Go.aS
set_option maxRecDepth 100000
set_option maxHeartbeats 4000000
theorem VW(main:Side)(h:Hp)(hS:∀S,main.ok S→∃Fin,S=Mo prog Fin)(hmb:main.b=true)(Eg:TypeId)(zg:Nat×Nat)(hg:h 0=some (.cells #[Ur qM] Eg zg)):Pu prog main Ei #[] h (.bool true):=by
 refine dV.aG KD rfl (by show 0≤102;decide) [] trivial ?_
 refine W.seq<|W.region rfl<|agb rfl rfl rfl<|pq<|W.seq<|W.region rfl ?_
 refine c0 (fun h' hE hL=>YQ _ h') (fun v A1 hs=>?_)
 refine Ops.NK (cs:= #[I 0,I 0,I 1]) (fun Ye=>?_) rfl
 refine c0 (fun h' hE hL=>aah _ h' s3 _ 12 [0,0,1] _ _ _ (hs.sl fun b o hb=>hL b o (.tail _ (List.mem_append_left _ hb))) (Sl.mk (hL Ye _ (.head _)) rfl (Part.all [I 0,I 0,I 1])) (hE.1 _ _ hg)) (fun v A2 hv=>?_)
 obtain⟨w1,S1,rfl,h1,hsb⟩:=hv
 rw[aaF]at h1⊢
 refine Ops.sb (F':=S1) (.right hsb (.cons rfl (hs.shut.app .nil))) ?_
 clear hs hsb
 refine qm rfl rfl rfl<|oq (bD rfl rfl rfl) rfl wn rfl rfl<|oq (bD rfl rfl rfl) rfl wn rfl rfl<|agb rfl rfl rfl<|agb rfl rfl rfl<|pq<|W.seq<|W.region rfl ?_
 refine c0 (fun h' hE hL=>YQ _ h') (fun v A1 hs=>?_)
 refine c0 (fun h' hE hL=>aao _ h' s3 _ 5 (hs.sl fun b o hb=>hL b o (List.mem_append_left _ hb))) (fun v A2 hv=>?_)
 obtain⟨w2,S2,rfl,h2,hsb⟩:=hv
 rw[aaE]at h2⊢
 refine Ops.sb (F':=S2++S1) (hsb.app (.left .refl hs.shut)) ?_
 clear hs hsb
 refine qm rfl rfl rfl<|oq (bD rfl rfl rfl) rfl wn rfl rfl<|oq (bD rfl rfl rfl) rfl wn rfl rfl<|agb rfl rfl rfl<|agb rfl rfl rfl<|pq<|W.seq<|W.region rfl ?_
 refine c0 (fun h' hE hL=>ad1 _ h') (fun v A1 hs=>?_)
 refine cp (fun h' hE hL=>J3 _ h' t3 _ 12 (hs.sl fun b o hb=>hL b o (List.mem_append_left _ hb))) ?_
 rw[UE]
 refine Ops.sb (F':=S2++S1) (.left .refl hs.shut) ?_
 clear hs
 refine qm rfl rfl rfl<|oq (bD rfl rfl rfl) rfl wn rfl rfl<|oq (bD rfl rfl rfl) rfl wn rfl rfl<|agb rfl rfl rfl<|agb rfl rfl rfl<|pq<|W.seq<|W.region rfl ?_
 refine c0 (fun h' hE hL=>ad1 _ h') (fun v A1 hs=>?_)
 refine cp (fun h' hE hL=>Yy _ h' t3 _ 12 (hs.sl fun b o hb=>hL b o (List.mem_append_left _ hb))) ?_
 rw[UE]
 refine Ops.sb (F':=S2++S1) (.left .refl hs.shut) ?_
 clear hs
 refine qm rfl rfl rfl<|oq (bD rfl rfl rfl) rfl wn rfl rfl<|oq (bD rfl rfl rfl) rfl wn rfl rfl<|agb rfl rfl rfl<|agb rfl rfl rfl<|pq<|W.seq<|W.region rfl ?_
 refine c0 (fun h' hE hL=>YQ _ h') (fun v A1 hs=>?_)
 refine Ops.JU hs (fun hz hEz hsl hzs=>?_)
 clear hs
 refine c0 (fun h' hE hL=>YB _ h' s3 _ hS hmb (hsl.ext hE) (hzs.ext hE)) (fun v A5 hv=>?_)
 obtain⟨w5,rfl,h5⟩:=hv
 rw[J8.1,if_pos rfl,J8.2]at h5
 rw[J8.1]
 refine qm rfl rfl rfl<|oq (bD rfl rfl rfl) rfl wn rfl rfl<|oq (bD rfl rfl rfl) rfl wn rfl rfl<|agb rfl rfl rfl<|agb rfl rfl rfl<|pq<|W.seq<|W.region rfl ?_
 refine c0 (fun h' hE hL=>YQ _ h') (fun v A1 hs=>?_)
 refine c0 (fun h' hE hL=>afF _ h') (fun v A6 hl=>?_)
 refine Ops.NK (cs:= #[I 6,I 6,I 2]) (fun afG=>?_) rfl
 refine c0 (fun h' hE hL=>YK _ h' s3 l3 [6,6,2] _ _ _ (hs.sl fun b o hb=>hL b o (.tail _ (List.mem_append_right _ (List.mem_append_left _ hb)))) (hl.sl fun b o hb=>hL b o (.tail _ (List.mem_append_left _ hb))) (Sl.mk (hL afG _ (.head _)) rfl (Part.all [I 6,I 6,I 2]))) (fun v A2 hv=>?_)
 obtain⟨w6,S6,rfl,h6,hsb⟩:=hv
 rw[YP]at h6⊢
 refine Ops.sb (F':=S6++(A5++(S2++S1))) (hsb.app (.skip rfl (.left (.left .refl hs.shut) hl.shut))) ?_
 clear hs hl hsb
 simp only at h1 h2 h5 h6⊢
 refine qm rfl rfl rfl<|oq (bD rfl rfl rfl) rfl wn rfl rfl<|oq (bD rfl rfl rfl) rfl wn rfl rfl<|oq (bD rfl rfl rfl) rfl wn rfl rfl<|agb rfl rfl rfl<|agb rfl rfl rfl<|agb rfl rfl rfl<|pq<|W.seq ?_
 refine W.region rfl<|qm rfl rfl rfl ?_
 refine KU (u:=.bool true) (nD rfl rfl rfl) rfl rfl wn rfl rfl ?_
 refine qm rfl rfl rfl ?_
 refine oq (aN rfl rfl) rfl (ak rfl rfl rfl) rfl rfl ?_
 refine KU (u:=.bool true) (nD rfl rfl rfl) rfl rfl (ak rfl rfl rfl) rfl rfl ?_
 refine agW (dG rfl rfl rfl) rfl ?_
 refine qm rfl rfl rfl ?_
 refine oq (aN rfl rfl) rfl (ak rfl rfl rfl) rfl rfl ?_
 refine KU (u:=.bool true) (nD rfl rfl rfl) rfl rfl (ak rfl rfl rfl) rfl rfl ?_
 refine agW (dG rfl rfl rfl) rfl ?_
 refine qm rfl rfl rfl ?_
 refine oq (aN rfl rfl) rfl (ak rfl rfl rfl) rfl rfl ?_
 refine KU (u:=.bool true) (nD rfl rfl rfl) rfl rfl (ak rfl rfl rfl) rfl rfl ?_
 refine agW (dG rfl rfl rfl) rfl ?_
 refine qm rfl rfl rfl ?_
 refine oq (aN rfl rfl) rfl (ak rfl rfl rfl) rfl rfl ?_
 refine KU (u:=.bool true) (nD rfl rfl rfl) rfl rfl (ak rfl rfl rfl) rfl rfl ?_
 refine agW (dG rfl rfl rfl) rfl ?_
 refine qm rfl rfl rfl ?_
 refine oq (aN rfl rfl) rfl (ak rfl rfl rfl) rfl rfl ?_
 refine KU (u:=.bool true) (nD rfl rfl rfl) rfl rfl (ak rfl rfl rfl) rfl rfl ?_
 refine agW (dG rfl rfl rfl) rfl ?_
 refine qm rfl rfl rfl ?_
 refine oq (aN rfl rfl) rfl (ak rfl rfl rfl) rfl rfl ?_
 refine KU (u:=.bool true) (nD rfl rfl rfl) rfl rfl (ak rfl rfl rfl) rfl rfl ?_
 refine agW (dG rfl rfl rfl) rfl ?_
 refine qm rfl rfl rfl ?_
 refine oq (aN rfl rfl) rfl (ak rfl rfl rfl) rfl rfl ?_
 refine KU (u:=.bool true) (nD rfl rfl rfl) rfl rfl (ak rfl rfl rfl) rfl rfl ?_
 refine agW (dG rfl rfl rfl) rfl ?_
 refine qm rfl rfl rfl ?_
 refine oq (aN rfl rfl) rfl (ak rfl rfl rfl) rfl rfl ?_
 refine KU (u:=.bool true) (nD rfl rfl rfl) rfl rfl (ak rfl rfl rfl) rfl rfl ?_
 refine agW (dG rfl rfl rfl) rfl ?_
 refine qm rfl rfl rfl ?_
 refine oq (aN rfl rfl) rfl (ak rfl rfl rfl) rfl rfl ?_
 refine Ops.NK (cs:= #[I 9,I 6,I 3]) (fun ad2=>?_) rfl
 refine cp (u:=.bool true) (fun h' hE hL=>Iw _ h' [9,6,3] _ _ (h1.sl (fun b o hb=>hL b o (.tail _ (List.mem_append_right _ (List.mem_append_right _ (List.mem_append_right _ hb)))))) (Sl.mk (hL ad2 _ (.head _)) rfl (Part.all [I 9,I 6,I 3])) (by simp)) ?_
 refine Ops.sb (.skip rfl .refl) ?_
 refine agW (dG rfl rfl rfl) rfl ?_
 refine qm rfl rfl rfl ?_
 refine oq (aN rfl rfl) rfl (ak rfl rfl rfl) rfl rfl ?_
 refine Ops.NK (cs:= #[I 1,I 2,I 2,I 1,I 2]) (fun ad3=>?_) rfl
 refine cp (u:=.bool true) (fun h' hE hL=>Iw _ h' [1,2,2,1,2] _ _ (h2.2 _ (fun b o hb=>hL b o (.tail _ (List.mem_append_right _ (List.mem_append_right _ (List.mem_append_left _ hb)))))) (Sl.mk (hL ad3 _ (.head _)) rfl (Part.all [I 1,I 2,I 2,I 1,I 2])) (by simp)) ?_
 refine Ops.sb (.skip rfl .refl) ?_
 refine agW (dG rfl rfl rfl) rfl ?_
 refine qm rfl rfl rfl ?_
 refine oq (aN rfl rfl) rfl (ak rfl rfl rfl) rfl rfl ?_
 refine Ops.NK (cs:= #[I 1]) (fun ad4=>?_) rfl
 refine cp (u:=.bool true) (fun h' hE hL=>Iw _ h' [1] _ _ (h5.sl (fun b o hb=>hL b o (.tail _ (List.mem_append_right _ (List.mem_append_left _ hb))))) (Sl.mk (hL ad4 _ (.head _)) rfl (Part.all [I 1])) (by simp)) ?_
 refine Ops.sb (.skip rfl .refl) ?_
 refine agW (dG rfl rfl rfl) rfl ?_
 refine qm rfl rfl rfl ?_
 refine oq (aN rfl rfl) rfl (ak rfl rfl rfl) rfl rfl ?_
 refine Ops.NK (cs:= #[I 0,I 1,I (-1)]) (fun ad5=>?_) rfl
 refine cp (u:=.bool true) (fun h' hE hL=>Iw _ h' [0,1,-1] _ _ (h6.sl (fun b o hb=>hL b o (.tail _ (List.mem_append_left _ hb)))) (Sl.mk (hL ad5 _ (.head _)) rfl (Part.all [I 0,I 1,I (-1)])) (by simp)) ?_
 refine Ops.sb (.skip rfl .refl) ?_
 refine agW (dG rfl rfl rfl) rfl ?_
 refine agb rfl rfl rfl<|pq<|W.ret ?_
 exact uZ rfl (hs:=h6.shut.app (h5.shut.app (h2.1.app h1.shut)))
end Go.aS

/- From a law's body to the run of the machine, and to what is claimed of it. Conditions: none; over any program. -/
namespace Go.aS
def QE(P:Program)(main:Side)(f:FuncId)(args:Array Value)(h:Hp)(u:Value):Prop:=
 ∃(fn:Func) (c:Code) (ρ:Env),P.funcs[f]? =some fn∧fn.body=some c∧args.size≤fn.ntmps∧G9 ρ args∧W ⟨P,main,f,fn.ntmps,none,h⟩ c (fun e ρ ds F=>ds=[]∧Shut F∧leave P main fn h (fun v _=>v=u) e ρ [] F) ρ [] []

section
variable{P:Program}{main:Side}{h:Hp}
theorem QE.aG{f:FuncId}{fn:Func}{c:Code}{args:Array Value}{u:Value}(hf:P.funcs[f]? =some fn)(hb:fn.body=some c)(ha:args.size≤fn.ntmps)(ρ:Env)(hρ:G9 ρ args)
  (H:W ⟨P,main,f,fn.ntmps,none,h⟩ c (fun e ρ ds F=>ds=[]∧Shut F∧leave P main fn h (fun v _=>v=u) e ρ [] F) ρ [] []):QE P main f args h u:=⟨fn,c,ρ,hf,hb,ha,hρ,H⟩
variable{fn:Func}{e:Exit}{ρ:Env}{F:ah}
theorem lvq{u:Value}{vs:List Value}(hu:pack vs=u)(he:e= .ret∨e= .normal:=by first | exact .inl rfl | exact .inr rfl)(hv:RI ρ fn.results.toList=some vs:=by rfl)(hs:Shut F:=by repeat(first | exact Shut.nil | assumption | refine Shut.cons rfl ?_ | refine Shut.app ?_ ?_)):([]:List Deferred)=[]∧Shut F∧leave P main fn h (fun v _=>v=u) e ρ [] F:=
 ⟨rfl,hs,mg hu he hv⟩
end
theorem QE.run{P:Program}{f:FuncId}{args:Array Value}{W:World}{u:Value}(hi:P.inits.idxOf? f=none)(T:QE P (GI P (tZ P fun v _=>v=u)) f args (atStart W) u):
  ∃M last o w' t',runNT P (M+1) (Conc.solo (Conc.G (Frame.enter P f args .normal) []) W) #[]=(.ended o w',t')∧runN P M (Conc.solo (Conc.G (Frame.enter P f args .normal) []) W)= .next last∧Go.step P last= .ended o w'∧Conc.Good P (fun v w'=>v=u∧Kept W w') last o w' t':=by
 obtain⟨fn,c,ρ,h1,h2,h3,h4,h5⟩:=T
 exact Mo.run (Mo.top (R:=fun v=>v=u) h1 h2 hi h3 ρ h4 PD (fun b o hb=>(ku.1 hb).2) (fun v w hv _=>hv) h5)

theorem Kept.below{w w':World}(h:Kept w w'):Go.RowKit.Below w.heap.size w {w' with os:=w.os}:=⟨rfl,h.tape,h.output,h.size,h.block⟩

theorem Gl(l:List Int):flat fH l=l.map fun n=>.int .i64 n:=by
 induction l with
 | nil=>rfl
 | cons a l ih=>rw[iV,ih];rfl
theorem Part.ace{c:Array Value}{off:Nat}{xs:List Value}(h:∀j,j<xs.length→c[off+j]? =xs[j]?)(hne:xs≠[]):Part c off xs:=by
 have hlen:off+xs.length≤c.size:=by
  have hpos:0<xs.length:=List.length_pos_iff.2 hne
  have:=h (xs.length-1) (by omega)
  rw[List.getElem?_eq_getElem (by omega)]at this
  rcases Nat.lt_or_ge (off+(xs.length-1)) c.size with h' | h'
  ·omega
  ·rw[Array.getElem?_eq_none h']at this;cases this
 refine⟨c.toList.take off,c.toList.drop (off+xs.length),?_,by simp;omega⟩
 apply List.ext_getElem?
 intro i
 have hsz:c.toList.length=c.size:=by simp
 rcases Nat.lt_or_ge i off with h1 | h1
 ·rw[List.getElem?_append_left (by simp;omega),List.getElem?_take,if_pos h1]
 ·rw[List.getElem?_append_right (by simp;omega)]
  have e1:(c.toList.take off).length=off:=by simp;omega
  rw[e1]
  rcases Nat.lt_or_ge (i-off) xs.length with h2 | h2
  ·rw[List.getElem?_append_left h2,←h _ h2]
   simp only[Array.getElem?_toList]
   congr 1;omega
  ·rw[List.getElem?_append_right h2,List.getElem?_drop]
   congr 1;omega
theorem Sl.atStart{W:World}{a:Addr}{n cap:Nat}{zs:List Int}(hz:n≤zs.length)(h:∀i,i<zs.length→W.cell? (a.add i)=some (.int .i64 (zs.getD i 0))):Sl (atStart W) fH (.slice (some a) n cap) (zs.take n):=by
 refine⟨some a,cap,by rw[List.length_take,Nat.min_eq_left hz],fun hne=>?_⟩
 have hpos:0<n:=by
  rcases Nat.eq_zero_or_pos n with h' | h'
  ·subst h';simp at hne
  ·exact h'
 obtain⟨b,off,spot⟩:=a
 have hsp:spot=none:=by
  have:=h 0 (by omega)
  cases hs:spot with
  | none=>rfl
  | some s=>
   subst hs
   exfalso
   simp only[World.cell?,Addr.add,if_true]at this
   split at this
   ·simp at this
   ·cases this
 subst hsp
 have cell:∀i,i<zs.length→∃c E fz,W.heap[b]? =some (.cells c E fz)∧c[off+i]? =some (.int .i64 (zs.getD i 0)):=fun i hi=>by
  have:=h i hi
  rw[show(⟨b,off,none⟩:Addr).add i=⟨b,off+i,none⟩ by unfold Addr.add;split <;>simp[*]]at this
  simp only[World.cell?]at this
  split at this
  ·rename_i c E fz hb
   exact⟨c,E,fz,hb,by simpa using this⟩
  ·cases this
 obtain⟨c,E,fz,hb,h0⟩:=cell 0 (by omega)
 refine⟨b,off,c,E,fz,rfl,ku.2 ⟨hb,rfl⟩,Part.ace (fun j hj=>?_) ?_⟩
 ·rw[Gl,List.length_map,List.length_take]at hj
  obtain⟨c',E',fz',hb',hj'⟩:=cell j (by omega)
  rw[hb]at hb'
  cases hb'
  rw[hj',Gl,List.getElem?_map,List.getElem?_take,if_pos (by omega),List.getElem?_eq_getElem (by omega)]
  simp[List.getD,List.getElem?_eq_getElem (show j<zs.length by omega)]
 ·rw[Gl]
  intro e
  exact hne (List.map_eq_nil_iff.1 e)
end Go.aS

/- From a law that answers true to its card, time passing meanwhile: the parts that all laws of this seat share. Conditions: as the cards say; over the given program. -/
namespace Go.aS
open Go.Proofs.YtkkdgffaohidnaaGreatDoor
set_option maxRecDepth 100000
set_option maxHeartbeats 4000000
theorem afH:ownKnob prog.godebug=none:=by kernel_rfl
theorem YR:laidOutB prog=true:=by kernel_rfl
theorem et0:prog.globalNamed "errors.errorType" =some 0:=by kernel_rfl
abbrev acf:String:=match(Rows.laid_errors_errorType:DataW Unit)with
 | .iface s _=>s
 | _=> ""
theorem rt0:(prog.cutTypes.find? (·.1==acf)).map (·.2)=some qI:=by kernel_rfl
theorem ad6:prog.types.size=270:=by kernel_rfl
theorem aaG:((List.range 270).filter fun t=>prog.rowNamed t [101,114,114,111,114])=[qM]:=by kernel_rfl
theorem EX:prog.underlying nS=some (.slice dL):=by kernel_rfl
theorem VX:prog.underlying dL=some (.int .i64):=by kernel_rfl
theorem SS:prog.underlying RS=some .bool:=by kernel_rfl
theorem VY:prog.cellsOf dL=1:=by kernel_rfl

abbrev J9:List (String×DataW Unit):=[("errors.errorType",Rows.laid_errors_errorType)]
theorem aaH{W:World}(h:laidMetH prog J9 W):∃E z,W.heap[0]? =some (.cells #[Ur qM] E z):=by
 have h':laidMet prog [] W∧handlesMet prog J9 W:=h
 obtain⟨name,u,ty,e1,e2,e3,e4,e5⟩:=h'.2 _ (List.mem_singleton.2 rfl)
 have en:name=[101,114,114,111,114]:=(Option.some.inj e1).symm
 subst en
 obtain rfl:=Option.some.inj (rt0.symm.trans e2)
 have hm:ty∈(List.range 270).filter fun t=>prog.rowNamed t [101,114,114,111,114]:=List.mem_filter.2 ⟨List.mem_range.2 (by rw[←ad6];exact e3),e4⟩
 rw[aaG]at hm
 obtain rfl:=List.mem_singleton.1 hm
 simp only[World.var?]at e5
 rw[et0,Option.bind_some]at e5
 split at e5
 ·rename_i cs E z hb
  obtain rfl:=Option.some.inj e5
  exact⟨E,z,hb⟩
 ·cases e5

noncomputable def laidWorld(os:Go.Os):World:=
 let w0:=World.holding prog os ⟨#[], #[],[]⟩
 {w0 with heap:=w0.heap.modify 0 fun
   | .cells _ t frozen=>.cells #[Ur qM] t frozen
   | o=>o}
theorem laidWorld_met(os:Go.Os)(args:Array Value):laidMetH prog J9 ((laidWorld os).forCall (fun _ _=>0) ⟨#[],args,[]⟩).memory:=
 laidMetH_of_parts (laidMet_nil _ _) (by kernel_rfl)

theorem Ld{P:Program}{l:List (String×DataW Unit)}{w w':World}(hh:w.heap=w'.heap)(h:laidMetH P l w):laidMetH P l w':=h.of_heap hh

theorem OB{H:Type}{enc:TypeId×Value→H}{C:Checked}{os:Go.Os}{f:FuncId}{fn:Func}{s:ChangeSpec}{conds:List PathCond}{apart:Bool}{X:World→Array Value→Prop}(w0:World)(args:Array Value)(fuel:Nat)(hos:w0.os=os)
  (hv:(w0.forCall (fun _ _=>0) ⟨#[],args,[]⟩).variablesB C.prog=true)
  (
   hr:((w0.forCall (fun _ _=>0) ⟨#[],args,[]⟩).heap.toList.drop C.prog.globals.size).take ((begin C.prog (fun _ _=>0) default).world.heap.size-C.prog.globals.size)=
   (begin C.prog (fun _ _=>0) default).world.heap.toList.drop C.prog.globals.size)
  (hok:Input.okWideB C.prog (w0.forCall (fun _ _=>0) ⟨#[],args,[]⟩) f ⟨#[],args,[]⟩=true)
  (hpre:s.preB enc C.prog fn conds apart (w0.forCall (fun _ _=>0) ⟨#[],args,[]⟩).memory args fuel=true)
  (hsz:s.sizedB enc C.prog fn apart (w0.forCall (fun _ _=>0) ⟨#[],args,[]⟩).memory args fuel=true)
  (hx:X (w0.forCall (fun _ _=>0) ⟨#[],args,[]⟩).memory args):
  ∃(w:World) (tape:Tape) (i:Input),w.os=os∧(w.forCall tape i).Shaped C.prog∧i.vars=[]∧Input.okWide C.prog (w.forCall tape i) .any w.heap.size f i∧
   ((s.pre enc C.prog fn conds apart (w.forCall tape i).memory i.args∧X (w.forCall tape i).memory i.args)∧sizedMet enc C.prog fn (OpenSpec.ofChange s) apart (w.forCall tape i).memory i.args)∧({calm:=true}:Assume).holds C.prog (lone (Frame.enter C.prog f i.args .normal) [] (w.forCall tape i)):=
 ⟨w0,fun _ _=>0,⟨#[],args,[]⟩,hos,World.shaped_of_B hv hr,(Input.okWide_of_okWideB (base:=0) hok).1,(Input.okWide_of_okWideB hok).2,⟨⟨ChangeSpec.pre_of_preB hpre,hx⟩,sizedMet_of_sizedB hsz⟩,by
  simp only[Assume.holds]
  exact⟨by simp,fun _ _ _ _=>rfl,by simp,by simp,by simp⟩⟩

section
open Go.ChangeShapes Go.WideShapes Go.RowKit
end
theorem VZ(Lk:Looks){p:Pinned}{s:OpenSpec}{c:OpenClaim}(al:List (List PathCond))(kinds:List LaidKind)(tests:Bool)(har:Bool×String)(lk:Bool)
  (hc:c.holds p s) (hal:∀D∈al,(c.withDomain D).holds p s) (hw:c.wfByText s=true) (hwal:∀D∈al,(c.withDomain D).wfByText s=true)
  (htie:c.laidByTextAt Lk p kinds tests)
  (hst:c.start= .entering) (hnb:c.noBlocks=false∧c.again=false) (hm:p.checked.prog.mainIs=some (har.1,har.2.toList)) (hn:(!har.1&&har.2.isEmpty&& !lk)=false)
  (hl:∀f fn,p.checked.prog.funcNamed c.func=some f→p.checked.prog.funcs[f]? =some fn→lk=p.checked.prog.looks []∧∀(j:Nat) t,fn.params[j]? =some t→p.checked.prog.wantsStandIn t=false)
  (hg:true=c.goesBy p.checked.prog):
  Claim7.holds p (.plain s) {stood:={row:=c,standIns:=[],harness:=har,looks:=lk},kinds:=[],alts:=al,goes:=true,laidByText:=true,laidKinds:=kinds,laidTests:=tests,laidLooks:=Lk}:=by
 have h6:∀r:OpenClaim,Claim7.isSixth {stood:={row:=r,standIns:=[],harness:=har,looks:=lk},kinds:=[]}=false:=fun r=>by simpa[Claim7.isSixth]using hn
 refine⟨Claim7.tied_new_at Lk kinds tests (Claim7.new_of_sixth hc har lk hst hnb hm (h6 c) hl) hw,fun D hD=>?_,htie,(fun h=>by cases h),hg⟩
 exact Claim7.tied_new_at Lk kinds tests (Claim7.new_of_sixth (hal D hD) har lk hst hnb hm (h6 _) hl) (hwal D hD)

end Go.aS

/- What the program's head says, found sign by sign. Conditions: none; over the given program. -/
namespace Go.aS
open Go
set_option maxRecDepth 100000
set_option maxHeartbeats 4000000
def uX:List Char:=['h','a','r','n','e','s','s',' ','d','b','c','2','9','b','b','b','9','7','2','7','f','b','e','b','a','f','7','4','2','9','f','7','2','6','6','f','9','d','8','2','b','5','a','0','2','e','c','0','9','6','9','2','1','0','b','7','2','4','e','1','e','d','2','d','a','c','6','6','c','c','8','d',' ','c','u','t',' ','a','t',' ','m','u','s','c','o','v','a','d','o','/','m','u','s','c','o','v','a','d','o','l','a','w','0','3','.','S','y','r','u','p','R','i','n','g',' ','m','u','s','c','o','v','a','d','o','/','m','u','s','c','o','v','a','d','o','l','a','w','0','3','.','S','y','r','u','p','L','o','n','g','e','s','t',' ','m','u','s','c','o','v','a','d','o','/','m','u','s','c','o','v','a','d','o','l','a','w','0','3','.','S','y','r','u','p','B','o','i','l','s',' ','m','u','s','c','o','v','a','d','o','/','m','u','s','c','o','v','a','d','o','l','a','w','0','3','.','S','y','r','u','p','B','o','i','l','e','d',' ','m','u','s','c','o','v','a','d','o','/','m','u','s','c','o','v','a','d','o','l','a','w','0','3','.','S','y','r','u','p','R','i','n','g','s',' ','m','u','s','c','o','v','a','d','o','/','m','u','s','c','o','v','a','d','o','l','a','w','0','3','.','S','y','r','u','p','E','v','e','r',' ','m','u','s','c','o','v','a','d','o','/','m','u','s','c','o','v','a','d','o','l','a','w','0','3','.','S','y','r','u','p','C','l','o','s','e','d',' ','m','u','s','c','o','v','a','d','o','/','m','u','s','c','o','v','a','d','o','l','a','w','0','3','.','S','y','r','u','p','M','o','r','e',' ','m','u','s','c','o','v','a','d','o','/','m','u','s','c','o','v','a','d','o','l','a','w','0','3','.','S','y','r','u','p','E','n','d',' ','m','u','s','c','o','v','a','d','o','/','m','u','s','c','o','v','a','d','o','l','a','w','0','3','.','S','y','r','u','p','M','i','r','r','o','r',' ','m','u','s','c','o','v','a','d','o','/','m','u','s','c','o','v','a','d','o','l','a','w','0','3','.','S','y','r','u','p','S','h','a','r','e','d',' ','m','u','s','c','o','v','a','d','o','/','m','u','s','c','o','v','a','d','o','l','a','w','0','3','.','S','y','r','u','p','C','o','u','n','t','s',' ','m','u','s','c','o','v','a','d','o','/','m','u','s','c','o','v','a','d','o','l','a','w','0','3','.','S','y','r','u','p','E','n','d','s',' ','m','u','s','c','o','v','a','d','o','/','m','u','s','c','o','v','a','d','o','l','a','w','0','3','.','S','y','r','u','p','S','h','o','r','t','e','s','t',' ','m','u','s','c','o','v','a','d','o','/','m','u','s','c','o','v','a','d','o','l','a','w','0','3','.','S','y','r','u','p','F','o','r','c','e','d',' ','m','u','s','c','o','v','a','d','o','/','m','u','s','c','o','v','a','d','o','l','a','w','0','3','.','S','y','r','u','p','N','u','m','b','e','r','e','d',' ','m','u','s','c','o','v','a','d','o','/','m','u','s','c','o','v','a','d','o','l','a','w','0','3','.','S','y','r','u','p','R','o','o','m',' ','m','u','s','c','o','v','a','d','o','/','m','u','s','c','o','v','a','d','o','l','a','w','0','3','.','S','y','r','u','p','S','h','a','r','e','s',' ','m','u','s','c','o','v','a','d','o','/','m','u','s','c','o','v','a','d','o','l','a','w','0','3','.','S','y','r','u','p','K','n','o','w','n']
theorem ad8:prog.initOrder=String.ofList uX:=by kernel_rfl
theorem UF:prog.initOrder.toList=uX:=by rw[ad8,String.toList_ofList]
theorem YS{P:Program}(h1:P.initOrder.toList=uX):P.mainIs=some (true, "dbc29bbb9727fbebaf7429f7266f9d82b5a02ec0969210b724e1ed2dac66cc8d".toList):=by unfold Program.mainIs;rw[h1];kernel_rfl
theorem acg{P:Program}(h1:P.initOrder.toList=uX):P.make=some .cut:=by unfold Program.make;rw[h1];kernel_rfl
theorem QF{P:Program}(h1:P.initOrder.toList=uX):P.headLifts=[]:=by unfold Program.headLifts;rw[h1];kernel_rfl
theorem OC{P:Program}(h1:P.initOrder.toList=uX):P.liftsFinal=false:=by unfold Program.liftsFinal;rw[QF h1,h1];kernel_rfl
theorem SV{P:Program}(h1:P.initOrder.toList=uX)(h2:P.laysLater=false)(h3:P.bearsReflect=false)(h4:P.doorFits []=true):P.mayEnter=true:=by
 unfold Program.mayEnter
 rw[h1,h2,h3]
 have e:(stripLifts liftWords ("cut".toList::(wordsSigns uX).drop 3)).1=[]:=by kernel_rfl
 have e2:behindMainWord (wordsSigns uX)= "cut".toList::(wordsSigns uX).drop 3:=by kernel_rfl
 rw[e2]
 dsimp only
 rw[e,h4]
 show _=true
 kernel_rfl
theorem ad9:prog.mainIs=some (true, "dbc29bbb9727fbebaf7429f7266f9d82b5a02ec0969210b724e1ed2dac66cc8d".toList):=YS UF
theorem ad_:prog.laysLater=false:=by kernel_rfl
theorem ach:prog.bearsReflect=false:=by kernel_rfl
theorem aea:prog.doorFits []=true:=by kernel_rfl
theorem aci:prog.mayEnter=true:=SV UF ad_ ach aea
theorem makeT{m:Option Make}(h:(some Make.cut==m)=true):(prog.make==m)=true:=by rw[acg UF];exact h
theorem aeb{b:Bool}(h:(b==false)=true):(b==prog.liftsFinal)=true:=by rw[OC UF];exact h
end Go.aS
