/- A boil at work is made. Conditions: none; over the given program. (And 11 texts more.) -/
import Derived.Test.YtahkljmgmgacjabGreatDoorR09
import Derived.Test.YtahkljmgmgacjabGreatDoorR08
import Derived.Test.YtahkljmgmgacjabGreatDoorR07
import Derived.Test.YtahkljmgmgacjabGreatDoorR06
set_option linter.unusedVariables false
set_option linter.unusedSimpArgs false
set_option linter.unusedSectionVars false

/- A boil at work is made. Conditions: none; over the given program. -/
namespace Go.aS
set_option maxRecDepth 100000
set_option maxHeartbeats 1000000
theorem aGX{α:Type}{l:List α}{i:Nat}{p:α}(h:l[i]? =some p):l.take (i+1)=l.take i++[p]:=by
 rw[List.take_add_one,h];rfl
theorem aGY(main:Side)(h:Hp)(vs vr vm vh vp:Value)(B0:Boi)(ok:BOK B0)(H:aBp h vs vr vm vh vp B0):
  dV prog main aAB #[ax8 vs vr vm vh vp] h [] (fun v A=>∃b β,v=bI b∧Sb [(b,awQ vs vr vm vh vp β),(β,axd (WM B0))] A):=by
 have h5:=ok.h2
 have h1:=ok.h1
 obtain⟨f0,h0,-⟩:=has (l:=B0.hs) (i:=0) (by omega)
 have hh:=H.hm
 obtain⟨a5,cap5,rfl⟩:=H.pm.dA
 obtain⟨a,cap,rfl⟩:=hh.dA
 obtain⟨bh,aC0,ch,Eh,fzh,e3,hbh,hxh,hyh,-⟩:=hh.at h0
 cases e3
 have aMh:ch.extract (aC0+0*2) (aC0+0*2+2)= #[I f0.lo,I f0.hi]:=hxh
 clear hxh
 refine dV.aG aC1 rfl (by show 1≤26;decide) [(0,ax8 vs vr vm (.slice (some ⟨bh,aC0,none⟩) B0.hs.length cap) (.slice a5 B0.ps.length cap5))] ⟨rfl,trivial⟩ ?_
 refine W.seq<|W.region rfl ?_
 refine Ops.box (fun β1=>?_)
 refine agb rfl rfl rfl<|pq<|W.seq<|W.region rfl ?_
 first | refine ag2 rfl ?_ | refine agW (ady rfl rfl) rfl ?_
 refine oe rfl wn rfl rfl (Md rfl fun yC _ _=>?_)
 refine agW (eH (cs:= #[vs,vr,vm,.slice (some ⟨bh,aC0,none⟩) B0.hs.length cap,.slice a5 B0.ps.length cap5,.map (some yC)]) rfl rfl (by kernel_rfl)) rfl ?_
 refine Ops.box (fun yD=>?_)
 refine Ops.new (fun uU=>?_)
 refine Ops.yG ?_
 refine pq<|W.seq<|W.seq ?_
 refine W.DR [(uU,.cells #[bI yD] awT (0,0)),(β1,.cells (Wv vs vr vm (.slice (some ⟨bh,aC0,none⟩) B0.hs.length cap) (.slice a5 B0.ps.length cap5)) MP (0,0))] (n:=8) rfl ?_
 refine dn 0 (iQ rfl rfl) rfl ?_
 refine dn 1 (ay rfl rfl) rfl ?_
 refine dn 2 (iQ rfl rfl) rfl ?_
 refine dn 3 (ay rfl rfl) rfl ?_
 refine dn 4 (iQ rfl rfl) rfl ?_
 first | refine dn 5 (G_ rfl rfl rfl) rfl ?_ | refine dn 5 (o_ rfl rfl rfl) rfl ?_
 first | refine dn 6 (Bf rfl rfl) rfl ?_ | refine dn 6 (zi rfl rfl) rfl ?_ | refine dn 6 (ady rfl rfl) rfl ?_
 refine ae (i:=7) rfl an rfl rfl (lQ (args:=[_,_,_]) rfl rfl (fun h' hE hL=>aHS _ h' yD f0 _ rfl) (fun v A' hv=>?_))
 obtain⟨b1,b2,b3,rfl,rfl⟩:=hv
 refine⟨.inr (Keeps.app (Keeps.one (.head _) (Keeps.one (.tail _ (.tail _ (.tail _ (.head _)))) Keeps.nil))),?_⟩
 refine az ?_
 refine aA<|W.block ?_
 refine W.perm (F':=[(yC,axd [])]++[(b3,.cells #[I f0.lo,I f0.hi] ayj (0,0)),(b2,.cells #[.slice a5 B0.ps.length cap5] aD6 (0,0)),(b1,.cells #[bI yD] awT (0,0)),(uU,.cells #[bI yD] awT (0,0)),(yD,awQ vs vr vm (.slice (some ⟨bh,aC0,none⟩) B0.hs.length cap) (.slice a5 B0.ps.length cap5) yC),(β1,.cells (Wv vs vr vm (.slice (some ⟨bh,aC0,none⟩) B0.hs.length cap) (.slice a5 B0.ps.length cap5)) MP (0,0))]) (List.perm_middle (l₁:=[_,_,_,_,_]) (l₂:=[_])).symm ?_
 refine W.abV (Val:=aKw B0) (xs:=ayo B0) rfl rfl rfl (fun k A=>A=[(yC,axd (((ayo B0).take k).map (aF_ B0)))]) (fun _ _ _ _=>False) .head rfl
  (fun h' hE hL=>aGa _ h' B0 ok f0 vs vr vm _ _ yD yC b1 b2 b3 _ _ _ _ _ _ h0 (H.ext hE) (hL yD _ (.tail _ (.tail _ (.tail _ (.tail _ (.head _)))))) (hL b1 _ (.tail _ (.tail _ (.head _)))) (hL b2 _ (.tail _ (.head _))) (hL b3 _ (.head _))) ?_ ?_ (fun _ _ _ _ _ _ _ _ hX=>hX.elim)
 ·rintro k p v S A1 hp ⟨rfl,rfl⟩ rfl l h1 hE1 hL1 hS1
  have hpm:=List.mem_of_getElem? hp
  have hp5:(MF p).length=5:=aC2 (by rw[az0 (aAC.1 hpm).1];exact h5)
  have aKy:(ayp (MF p) (axX B0 (MF p)) (azh B0 (MF p))).size=12:=rfl
  have aMi:ones (ayp (MF p) (axX B0 (MF p)) (azh B0 (MF p))).toList=true:=rfl
  have aMj:(ayp (MF p) (axX B0 (MF p)) (azh B0 (MF p))).extract 0 (0+12)=ayp (MF p) (axX B0 (MF p)) (azh B0 (MF p)):=by
   rw[Array.extract_eq_self_of_le (by rw[aKy];omega)]
  have hgk:=aFd (l:=axX B0 (MF p)) (n:=azh B0 (MF p)) hp5
  have hnew:=aJD (B:=B0) hp
  have hnx:((ayo B0).take (k+1)).map (aF_ B0)=((ayo B0).take k).map (aF_ B0)++[aF_ B0 p]:=by
   rw[aGX hp,List.map_append];rfl
  refine W.region rfl ?_
  refine Ops.new (fun wC=>?_)
  first | refine Ops.jP ?_ | refine Ops.nY ?_
  refine Ops.nil ?_
  refine⟨rfl,rfl,fun h0 hE0 hL0=>?_⟩
  intro hS0
  have hx3:=hL0 uU _ (.tail _ (.tail _ (.tail _ (.head _))))
  have hx8:=hL0 yD _ (.tail _ (.tail _ (.tail _ (.tail _ (.head _)))))
  refine W.block ?_
  refine W.DR [(wC,.cells (ayp (MF p) (axX B0 (MF p)) (azh B0 (MF p))) GR (0,0))] (n:=8) rfl ?_
  refine dn 0 (iQ rfl rfl) rfl ?_
  first | refine dn 1 (bg rfl rfl) rfl ?_ | refine dn 1 (aT rfl rfl) rfl ?_
  refine dn 2 (ay rfl rfl) rfl ?_
  refine dn 3 (iQ rfl rfl) rfl ?_
  refine dn 4 (ay rfl rfl) rfl ?_
  refine dn 5 (zi (vs:=((MF p).map nI).toArray) rfl rfl (.inr fun _ e=>e _ (.head _)) (by omega) hgk) rfl ?_
  first | refine dn 6 (Bf rfl rfl) rfl ?_ | refine dn 6 (zi rfl rfl) rfl ?_ | refine dn 6 (ady rfl rfl) rfl ?_
  refine ae (i:=7) rfl an rfl rfl (aIz (a:=MF p) (w:=5) (m:=((ayo B0).take k).map (aF_ B0)) rfl rfl rfl rfl hp5 (fun q hq=>by
   obtain⟨z,hz,rfl⟩:=List.mem_map.1 hq
   exact aC2 (by rw[az0 (aAC.1 (List.mem_of_mem_take hz)).1];exact h5)) hnew (.tail .head) ?_)
  refine⟨.inl (by kernel_rfl),?_⟩
  refine az ?_
  refine dI ?_
  exact⟨rfl,.inl ⟨rfl,_,rfl,by rw[hnx];exact .skip rfl .refl⟩⟩
 ·rintro A2 rfl d
  rw[List.take_of_length_le (Nat.le_refl _)]
  refine dI<|aA<|W.seq<|W.region rfl ?_
  refine agX rfl ?_
  refine agb rfl rfl rfl<|pq<|W.ret ?_
  refine lvm (hl:=At.head) (mg (vs:=[_]) ⟨yD,yC,rfl,?_⟩)
  exact .skip rfl (Sb.trans (Sb.dF (List.Perm.swap _ _ _)) (.cons (.skip rfl (.skip rfl (.skip rfl (.skip rfl (.cons (.skip rfl .refl))))))))

def bdF(s n:Nat):Nat→Int
 | 0=>(s:Int)-1
 | 1=>n
 | _=>(n:Int)-1
theorem aKz{s n j:Nat}(hj:j<3){cs:Array Value}(hc:cs= #[I ((s:Int)-1),I n,I ((n:Int)-1)]):cs[(j:Int).toNat*1]? =some (I (bdF s n j)):=by
 subst hc
 have:j=0∨j=1∨j=2:=by omega
 rcases this with rfl | rfl | rfl <;>rfl
theorem EM(main:Side)(h:Hp)(vs vr vm vh vp vq:Value)(B0:Boi)(lq:List Int)(ok:BOK B0)(H:aBp h vs vr vm vh vp B0)(hq:Sl h fH vq lq)(hl1:lq.length≤1)(hlq:∀n∈lq,0≤n∧n<B0.ss.length):
  dV prog main aCp #[ax8 vs vr vm vh vp,vq,.slice none 0 0,.slice none 0 0] h [] (fun v A=>∃b β,v= .tuple #[bI b,I 0]∧Sb [(b,awQ vs vr vm vh vp β),(β,axd (WM B0))] A):=by
 have hh5:=ok.h2
 have hh1:=ok.h1
 have hs1:=ok.s1
 have hs2:=ok.s2
 obtain⟨a1,cap1,rfl⟩:=H.sm.dA
 obtain⟨a4,cap4,rfl⟩:=H.hm.dA
 obtain⟨a6,cap6,rfl⟩:=H.pm.dA
 obtain⟨a5,cap5,rfl⟩:=hq.dA
 refine dV.aG aD7 rfl (by show 4≤57;decide) [(0,ax8 _ _ _ _ _),(1,.slice a5 lq.length cap5),(2,.slice none 0 0),(3,.slice none 0 0)] ⟨rfl,rfl,rfl,rfl,trivial⟩ ?_
 refine W.seq<|W.region rfl ?_
 refine Ops.box (fun wC=>?_)
 refine agb rfl rfl rfl<|agb rfl rfl rfl<|pq<|W.seq<|W.seq<|W.region rfl ?_
 first | refine ag2 rfl ?_ | refine agW (ady rfl rfl) rfl ?_
 refine cp (fun h' hE hL=>aHT _ h' _ _ _ _ _ B0 ok (H.ext hE)) ?_
 refine agb rfl rfl rfl<|pq<|W.seq<|W.region rfl<|qm rfl rfl rfl ?_
 refine agW (nG rfl rfl rfl) rfl ?_
 refine pq ?_
 refine W.bC rfl (fun c18=>?_) (fun c18=>?_)
 ·refine W.seq<|W.region rfl<|qm rfl rfl rfl<|agb rfl rfl rfl<|agb rfl rfl rfl<|pq<|W.ret<|aY ?_
  exact absurd rfl ‹_›
 ·refine W.skip<|aA<|W.seq<|W.seq<|W.region rfl<|qm rfl rfl rfl<|qm rfl rfl rfl<|qm rfl rfl rfl ?_
  refine Ops.NK (fun alR=>?_) rfl
  refine agW (dM rfl rfl) rfl ?_
  refine qm rfl rfl rfl<|pq<|W.block ?_
  refine W.loop (σ:=Nat) (fun j=>j≤3) (fun j=>[(25,I j),(24,I 3),(23,.slice (some ⟨alR,0,none⟩) 3 3),(4,bI wC)]) (fun _=>[(alR,.cells #[.slice a5 lq.length cap5,.slice none 0 0,.slice none 0 0] nS (0,0)),(wC,.cells (Wv (.slice a1 B0.ss.length cap1) vr vm (.slice a4 B0.hs.length cap4) (.slice a6 B0.ps.length cap6)) MP (0,0))]) (fun j=>3-j) 0 (by decide) ⟨rfl,rfl,rfl,rfl,trivial⟩ .refl ?_
  intro j hj
  refine W.seq<|W.region rfl ?_
  refine agW (fO rfl rfl rfl) rfl ?_
  refine pq<|W.seq ?_
  refine W.bC rfl (fun c26=>?_) (fun c26=>?_)
  ·have hj3:j<3:=by omega
   obtain⟨l,a,c,hlv,hsl,hll,hbd⟩:∃(l:List Int) (a:Option Addr) (c:Nat),(#[.slice a5 lq.length cap5,.slice none 0 0,.slice none 0 0]:Array Value)[0+j*1+0]? =some (.slice a l.length c)∧Sl h fH (.slice a l.length c) l∧l.length≤1∧∀n∈l,0≤n∧n≤bdF B0.ss.length B0.hs.length j:=by
    have:j=0∨j=1∨j=2:=by omega
    rcases this with rfl | rfl | rfl
    ·exact⟨lq,_,_,rfl,hq,hl1,fun n hn=>by have:=hlq n hn;exact⟨this.1,by show n≤(B0.ss.length:Int)-1;omega⟩⟩
    ·exact⟨[],_,_,rfl,.nil,by simp,fun n hn=>by cases hn⟩
    ·exact⟨[],_,_,rfl,.nil,by simp,fun n hn=>by cases hn⟩
   refine W.skip<|aA<|W.seq<|W.block<|W.seq<|W.region rfl<|qm rfl rfl rfl ?_
   refine ag3 rfl ?_
   refine agX rfl ?_
   refine agb rfl rfl rfl<|agb rfl rfl rfl<|pq<|W.seq<|W.region rfl<|qm rfl rfl rfl ?_
   refine agW (dM rfl rfl) rfl ?_
   refine qm rfl rfl rfl<|pq<|W.block ?_
   refine W.loop (σ:=Nat) (fun i=>i≤l.length) (fun i=>[(32,I i),(31,I l.length),(30,.slice a l.length c),(11,I j),(25,I j),(24,I 3),(23,.slice (some ⟨alR,0,none⟩) 3 3),(4,bI wC)]) (fun _=>[(alR,.cells #[.slice a5 lq.length cap5,.slice none 0 0,.slice none 0 0] nS (0,0)),(wC,.cells (Wv (.slice a1 B0.ss.length cap1) vr vm (.slice a4 B0.hs.length cap4) (.slice a6 B0.ps.length cap6)) MP (0,0))]) (fun i=>l.length-i) 0 (Nat.zero_le _) ⟨rfl,rfl,rfl,rfl,rfl,rfl,rfl,rfl,trivial⟩ .refl ?_
   intro i hi
   refine W.seq<|W.region rfl ?_
   refine agW (fO rfl rfl rfl) rfl ?_
   refine pq<|W.seq ?_
   refine W.bC rfl (fun c33=>?_) (fun c33=>?_)
   ·obtain⟨p,hpi,-⟩:=has (show i<l.length by omega)
    have hpb:=hbd p (List.mem_of_getElem? hpi)
    obtain⟨bx,ox,cx,Ex,fzx,e3,hbx,-,hyx,hzx⟩:=hsl.at hpi
    cases e3
    have hxx:cx[ox+i*1+0]? =some (I p):=hzx 0 (by decide)
    clear hzx
    refine W.skip<|aA<|W.seq<|W.block<|W.seq<|W.region rfl ?_
    refine ag3 rfl ?_
    refine agX rfl ?_
    refine agb rfl rfl rfl<|pq<|W.seq<|W.region rfl<|qm rfl rfl rfl ?_
    refine agY rfl ?_
    refine agX rfl ?_
    refine agW (dM rfl rfl) rfl ?_
    refine ag5 rfl ?_
    refine agY rfl ?_
    refine agX rfl ?_
    refine agW (dM rfl rfl) rfl ?_
    refine agY rfl ?_
    refine agX rfl ?_
    refine agW (dM rfl rfl) rfl ?_
    refine ag5 rfl ?_
    refine agW (aGZ rfl rfl rfl) rfl ?_
    refine qm rfl rfl rfl ?_
    refine agW (Ti (v:=I (bdF B0.ss.length B0.hs.length j)) rfl rfl rfl (by omega) (by omega) (aKz hj3 rfl)) rfl ?_
    refine cp (fun h' hE hL=>ayu _ h' _ _ _) ?_
    refine agW (xU rfl rfl) rfl ?_
    refine pq ?_
    refine W.cond rfl (fun c52=>?_) (fun c52=>?_)
    ·refine W.seq<|W.region rfl<|agb rfl rfl rfl<|agb rfl rfl rfl<|pq<|W.ret<|cZ<|aY<|aY ?_
     refine cZ<|cZ<|aY<|aY<|cZ<|aY ?_
     exfalso
     simp only[Bool.not_eq_true',decide_eq_false_iff_not]at*
     omega
    ·refine W.skip<|dI<|aA<|W.region rfl ?_
     refine ag1 rfl ?_
     refine qm rfl rfl rfl<|pq ?_
     exact⟨rfl,i+1,by omega,by omega,⟨rfl,rfl,rfl,rfl,rfl,rfl,rfl,rfl,trivial⟩,.refl⟩
   ·skip
    refine W.exit<|bP<|bP<|gG<|dI<|aA<|W.region rfl ?_
    refine ag1 rfl ?_
    refine qm rfl rfl rfl<|pq ?_
    exact⟨rfl,j+1,by omega,by omega,⟨rfl,rfl,rfl,rfl,trivial⟩,.refl⟩
  ·skip
   refine W.exit<|bP<|bP<|gG<|aA<|W.seq<|W.region rfl ?_
   first | refine ag2 rfl ?_ | refine agW (ady rfl rfl) rfl ?_
   refine c0 (fun h' hE hL=>aGY _ h' _ _ _ _ _ B0 ok (H.ext hE)) (fun v A' hv=>?_)
   obtain⟨b,β,rfl,hsb⟩:=hv
   refine agb rfl rfl rfl<|agb rfl rfl rfl<|pq<|W.ret ?_
   exact mg (vs:=[_,_]) ⟨b,β,rfl,.right hsb (.cons rfl (.cons rfl .nil))⟩
end Go.aS

/- A boil that has a truth. Conditions: none; over the given program. -/
namespace Go.aS
set_option maxRecDepth 100000
set_option maxHeartbeats 1000000
theorem aIB{x:Cx}{ρ:Env}{F:eG}{o:Oper}{R:Value→eG→Prop}{t kt vt:Nat}{y:Operand}{β:Nat}{m:List (List Int×Value)}(ho:o.op= .call ⟨.builtin .len, #[y], #[t]⟩)[TD x.P t (.map kt vt)](hy:ev ρ y=some (.map (some β)))(hm:(β,axd m)∈F)(H:R (.int .i64 m.length) F):Ef x ρ o F R:=
 Ef.xW fun e he h' hE=>by
  simp only[execOp,ho,resolve,invoke,builtin,Builtin.len_,List.map_toArray,List.map_cons,List.map_nil,he y _ hy,List.getElem?_toArray,List.getElem?_cons_zero,bind_eq,gq,bind_assoc,bind_pure,aC]
  refine⟨axd m,.inr hm,(fun _ _ _=>by simp),rfl,?_⟩
  simp only[bind_pure]
  refine⟨_,.inl rfl,?_⟩
  simpa[goInt,aIC]using H
theorem aD8{B:Boi}:(WM B).length=(ayo B).length:=by simp[WM]
theorem aGb(main:Side)(h:Hp)(vs vr vm vh vp vq:Value)(B0:Boi)(lq:List Int)(ok:BOK B0)(hne:1≤(ayo B0).length)(H:aBp h vs vr vm vh vp B0)(hq:Sl h fH vq lq)(hl1:lq.length≤1)(hlq:∀n∈lq,0≤n∧n<B0.ss.length):
  dV prog main aBq #[ax8 vs vr vm vh vp,vq,.slice none 0 0,.slice none 0 0] h [] (fun v A=>∃b β,v= .tuple #[bI b,I 0]∧Sb [(b,awQ vs vr vm vh vp β),(β,axd (WM B0))] A):=by
 have hml:=aD8 (B:=B0)
 refine dV.aG aDS rfl (by show 4≤32;decide) [(0,ax8 _ _ _ _ _),(1,vq),(2,.slice none 0 0),(3,.slice none 0 0)] ⟨rfl,rfl,rfl,rfl,trivial⟩ ?_
 refine W.seq<|W.region rfl ?_
 refine Ops.box (fun wC=>?_)
 refine agb rfl rfl rfl<|agb rfl rfl rfl<|pq<|W.seq<|W.region rfl ?_
 first | refine ag2 rfl ?_ | refine agW (ady rfl rfl) rfl ?_
 refine qm rfl rfl rfl<|qm rfl rfl rfl<|qm rfl rfl rfl ?_
 refine c0 (fun h' hE hL=>EM _ h' vs vr vm vh vp vq B0 lq ok (H.ext hE) (hq.ext hE) hl1 hlq) (fun v A' hv=>?_)
 obtain⟨b,β,rfl,hsb⟩:=hv
 refine Ops.sb (hsb.app .refl) ?_
 refine qm rfl rfl rfl<|oq (bD rfl rfl rfl) rfl wn rfl rfl<|oq (bD rfl rfl rfl) rfl wn rfl rfl<|agb rfl rfl rfl<|agb rfl rfl rfl<|pq<|W.seq<|W.seq<|W.region rfl ?_
 refine qm rfl rfl rfl ?_
 refine agW (nD rfl rfl rfl) rfl ?_
 refine qm rfl rfl rfl ?_
 refine Ops.ask (fun aMl=>?_) (fun aMl=>?_)
 ·refine oq (aN rfl rfl) rfl (ak rfl rfl rfl) rfl rfl ?_
  first | refine oq (bg rfl rfl) rfl (ak rfl rfl rfl) rfl rfl ?_ | refine oq (aT rfl rfl) rfl (ak rfl rfl rfl) rfl rfl ?_
  refine oq (ay rfl rfl) rfl (ak rfl rfl rfl) rfl rfl ?_
  refine oq (iQ rfl rfl) rfl (ak rfl rfl rfl) rfl rfl ?_
  refine oe rfl (ak rfl rfl rfl) rfl rfl (aIB rfl rfl (.tail _ (.head _)) ?_)
  refine oq (nD rfl rfl rfl) rfl (ak rfl rfl rfl) rfl rfl ?_
  refine agW (dG rfl rfl rfl) rfl ?_
  refine pq ?_
  refine W.bC rfl (fun c29=>?_) (fun c29=>?_)
  ·refine W.seq<|W.region rfl<|agb rfl rfl rfl<|agb rfl rfl rfl<|pq<|W.ret<|aY ?_
   exfalso
   first | omega | (simp at*;done) | (simp only[decide_eq_true_eq]at*;omega)
  ·refine W.skip<|aA<|W.seq<|W.region rfl<|qm rfl rfl rfl<|qm rfl rfl rfl<|agb rfl rfl rfl<|agb rfl rfl rfl<|pq ?_
   refine W.ret ?_
   exact mg (vs:=[_,_]) ⟨b,β,rfl,.cons (.cons (.skip rfl .refl))⟩
 ·refine Ops.no ?_
  refine Ops.no ?_
  refine Ops.no ?_
  refine Ops.no ?_
  refine Ops.no ?_
  refine Ops.no ?_
  refine agW (iH rfl rfl rfl) rfl ?_
  refine pq ?_
  refine W.bZ ?_
  refine W.skip<|aA<|W.seq<|W.region rfl<|qm rfl rfl rfl<|qm rfl rfl rfl<|agb rfl rfl rfl<|agb rfl rfl rfl<|pq ?_
  refine W.ret ?_
  exact mg (vs:=[_,_]) ⟨b,β,rfl,.cons (.cons (.skip rfl .refl))⟩

theorem aC4:∀{hs:List Spn} {x:List Int} {a:Int},(∀s∈hs,0≤s.lo∧s.hi≤4)→x∈allH hs→a∈x→0≤a∧a≤4
 | [],x,a,_,h,ha=>by
               have:x=[]:=by simpa[allH]using h
               subst this;cases ha
 | s::r,x,a,hb,h,ha=>by
  simp only[allH,List.mem_flatMap,List.mem_map]at h
  obtain⟨n,hn,y,hy,rfl⟩:=h
  have h1:=aHw.1 hn
  have h2:=hb s (List.mem_cons_self ..)
  rcases List.mem_cons.1 ha with rfl | ha
  ·omega
  ·exact aC4 (fun s hs=>hb s (List.mem_cons_of_mem _ hs)) hy ha
theorem cnt_lt{p q:Nat→Bool}{a:Nat}:∀{l:List Nat},a∈l→p a=true→q a=false→(∀b,q b=true→p b=true)→l.countP q<l.countP p
 | [],h,_,_,_=>by cases h
 | b::l,h,hp,hq,hi=>by
  rw[List.countP_cons,List.countP_cons]
  rcases List.mem_cons.1 h with rfl | h
  ·have:l.countP q≤l.countP p:=List.countP_mono_left fun x _ hx=>hi x hx
   simp only[hp,hq]
   simp;omega
  ·have ih:=cnt_lt h hp hq hi
   have:(if q b=true then 1 else 0)≤(if p b=true then 1 else 0):=by
    cases hb:q b with
    | false=>simp
    | true=>simp[hi b hb]
   omega
def aID(N:Nat)(sn:List Nat):Nat:=(List.range N).countP fun i=> !sn.contains i
theorem aD9{N i:Nat}{sn:List Nat}(h:i<N)(hi:i∉sn):aID N (sn++[i])<aID N sn:=by
 refine cnt_lt (a:=i) (List.mem_range.2 h) (by simpa using hi) (by simp) fun b hb=>?_
 simp at hb⊢
 exact hb.1

end Go.aS

/- At which times a pan surely has a long thread. Conditions: none; over the given program. -/
namespace Go.aS
set_option maxRecDepth 100000
set_option maxHeartbeats 1000000
abbrev B8(n:Nat):Value:=.int .u8 (n:Int)
theorem aIE{a b:Int}{c:Bool}(h:((a==b)==c)=true):decide (a=b)=c:=by
 have:(a==b)=c:=by simpa using h
 rw[←this];rfl
def adw(a k:Nat):Bool:=(bits .and .u8 ((a:Int).fdiv (2 ^ (min (k:Int).toNat IntKind.u8.bits))) 1==1)==a.testBit k
theorem XY:((List.range 64).all fun a=>(List.range 6).all fun k=>adw a k)=true:=by kernel_rfl
theorem Z_{a k:Nat}(ha:a<64)(hk:k<6):decide (bits .and .u8 ((a:Int).fdiv (2 ^ (min (k:Int).toNat IntKind.u8.bits))) 1=1)=a.testBit k:=by
 have h:=XY
 rw[List.all_eq_true]at h
 have h:=h a (List.mem_range.2 ha)
 rw[List.all_eq_true]at h
 exact aIE (h k (List.mem_range.2 hk))
def orT(a k:Nat):Bool:=bits .or .u8 (a:Int) (IntKind.u8.wrap (1*2 ^ (min (k:Int).toNat IntKind.u8.bits)))==((a||| 2 ^ k:Nat):Int)
theorem Z8:((List.range 6).all fun k=>(List.range 64).all fun a=>orT a k)=true:=by kernel_rfl
theorem or_bit{a k:Nat}(hk:k<6)(ha:a<64):bits .or .u8 (a:Int) (IntKind.u8.wrap (1*2 ^ (min (k:Int).toNat IntKind.u8.bits)))=((a||| 2 ^ k:Nat):Int):=by
 have h:=Z8
 rw[List.all_eq_true]at h
 have h:=h k (List.mem_range.2 hk)
 rw[List.all_eq_true]at h
 have h:=h a (List.mem_range.2 ha)
 simpa only[orT,beq_iff_eq]using h
theorem aFF(main:Side)(h:Hp)(m k:Nat)(hm:m<64)(hk:k<6):Pu prog main aw9 #[B8 m,I k] h (.bool (m.testBit k)):=by
 refine dV.aG aB8 rfl (by show 2≤10;decide) [(0,B8 m),(1,I k)] ⟨rfl,rfl,trivial⟩ ?_
 refine W.seq<|W.region rfl<|agb rfl rfl rfl<|pq<|W.seq<|W.region rfl<|qm rfl rfl rfl<|qm rfl rfl rfl ?_
 refine agW (Gw rfl rfl rfl (by omega)) rfl ?_
 refine agW (aaK rfl rfl rfl) rfl ?_
 refine agW (nD rfl rfl rfl) rfl ?_
 refine agb rfl rfl rfl<|pq<|W.ret ?_
 refine uZ ?_
 exact congrArg Value.bool (Z_ hm hk)
theorem aGc(main:Side)(h:Hp)(m k:Nat)(hm:m<64)(hk:k<6):Pu prog main azw #[B8 m,I k] h (B8 (m||| 2 ^ k)):=by
 refine dV.aG aBr rfl (by show 2≤9;decide) [(0,B8 m),(1,I k)] ⟨rfl,rfl,trivial⟩ ?_
 refine W.seq<|W.region rfl<|agb rfl rfl rfl<|pq<|W.seq<|W.region rfl<|qm rfl rfl rfl<|qm rfl rfl rfl ?_
 refine agW (Wx rfl rfl rfl (by omega)) rfl ?_
 refine agW (acI rfl rfl rfl) rfl ?_
 refine agb rfl rfl rfl<|pq<|W.ret ?_
 refine uZ ?_
 exact congrArg (Value.int .u8) (or_bit hk hm)

def aFe(B:Boi)(Jq t:Nat)(x:List Int):Bool:=decide (((awL B.ms (((axX B (MF x)).getD Jq ⟨0,0⟩).lo+aw_ B.rs (MF x) Jq t):Nat):Int)=2)&&decide (((awL B.ms (((axX B (MF x)).getD Jq ⟨0,0⟩).hi+aw_ B.rs (MF x) Jq t):Nat):Int)=2)
def aAD(B:Boi)(Jq t:Nat):Bool:=(ayo B).all (aFe B Jq t)
def aD_(B:Boi)(Jq t i:Nat):Bool:=match(ayo B)[i]? with | some x=>aFe B Jq t x | none=>true
theorem aIF{B:Boi}{Jq t:Nat}{sn:List Nat}(h:∀i,i<(ayo B).length→i∈sn):sn.all (aD_ B Jq t)=aAD B Jq t:=by
 rw[Bool.eq_iff_iff,List.all_eq_true,aAD,List.all_eq_true]
 constructor
 ·intro H x hx
  obtain⟨i,hi⟩:=List.mem_iff_getElem?.1 hx
  have:=H i (h i (List.getElem?_eq_some_iff.1 hi).1)
  rw[aD_,hi]at this;exact this
 ·intro H i _
  rw[aD_]
  rcases e:(ayo B)[i]? with _ | x
  ·rfl
  ·exact H x (List.mem_of_getElem? e)
theorem aHU{B:Boi}{Jq t i:Nat}{sn:List Nat}{x:List Int}(h:(ayo B)[i]? =some x):(sn++[i]).all (aD_ B Jq t)=(sn.all (aD_ B Jq t)&&aFe B Jq t x):=by
 rw[List.all_append];simp[aD_,h]
def aAE(B:Boi)(Jq:Nat):Nat→Nat
 | 0=>0
 | n+1=>if aAD B Jq n then aAE B Jq n||| 2 ^ n else aAE B Jq n
theorem aD1{B:Boi}{Jq:Nat}:∀{n:Nat},aAE B Jq n<2 ^ n
 | 0=>by simp[aAE]
 | n+1=>by
  have ih:=aD1 (B:=B) (Jq:=Jq) (n:=n)
  have h2:2 ^ n<2 ^ (n+1):=Nat.pow_lt_pow_right (by decide) (by omega)
  rw[aAE]
  split
  ·exact Nat.or_lt_two_pow (by omega) h2
  ·omega
theorem aEa{B:Boi}{Jq:Nat}:∀{n k:Nat},(aAE B Jq n).testBit k=(decide (k<n)&&aAD B Jq k)
 | 0,k=>by simp[aAE]
 | n+1,k=>by
  have ih:=aEa (B:=B) (Jq:=Jq) (n:=n) (k:=k)
  rw[aAE]
  rcases Nat.lt_trichotomy k n with h | h | h
  ·have e1:decide (k<n)=true:=by simpa using h
   have e2:decide (k<n+1)=true:=by simp;omega
   rw[e2];rw[e1]at ih
   split
   ·rw[Nat.testBit_or,ih,Nat.testBit_two_pow];simp;intro;omega
   ·exact ih
  ·subst h
   have e1:decide (k<k)=false:=by simp
   rw[e1]at ih
   rw[show decide (k<k+1)=true by simp]
   split
   ·rename_i hs;rw[Nat.testBit_or,ih,Nat.testBit_two_pow];simp[hs]
   ·rename_i hs;rw[ih];simp at hs;simp[hs]
  ·have e1:decide (k<n)=false:=by simp;omega
   have e2:decide (k<n+1)=false:=by simp;omega
   rw[e2];rw[e1]at ih
   split
   ·rw[Nat.testBit_or,ih,Nat.testBit_two_pow];simp;omega
   ·rw[ih]

theorem aJE{B:Boi}(ok:BOK B){x:List Int}(hx:x∈ayo B):(MF x).length=5∧∀a∈MF x,0≤a∧a≤4:=by
 have h:=(aAC.1 hx).1
 exact⟨aC2 (by rw[az0 h];exact ok.h2),aFG fun a ha=>aC4 (fun s hs'=>⟨(ok.hp s hs').1,(ok.hp s hs').2.2⟩) h ha⟩

theorem aFf(main:Side)(h:Hp)(b β:Nat)(vs vr vm vh vp:Value)(B0:Boi)(ok:BOK B0)(Jq:Nat)(aGd:Jq<B0.ss.length)(H:aBp h vs vr vm vh vp B0):
  dV prog main azi #[bI b,I Jq] h [(b,awQ vs vr vm vh vp β),(β,axd (WM B0))] (fun v A=>v=B8 (aAE B0 Jq (B0.hs.length+1))∧Sb [(b,awQ vs vr vm vh vp β),(β,axd (WM B0))] A):=by
 have hh5:=ok.h2
 have hs3:=ok.s2
 have hr1:=ok.r1
 have hml:=aD8 (B:=B0)
 obtain⟨a4,cap4,hvh⟩:=H.hm.dA
 refine dV.aG aBb rfl (by show 2≤56;decide) [(0,bI b),(1,I Jq)] ⟨rfl,rfl,trivial⟩ ?_
 subst hvh
 refine W.seq<|W.region rfl<|agb rfl rfl rfl<|pq<|W.seq<|W.region rfl<|agb rfl rfl rfl<|pq ?_
 refine W.seq<|W.seq<|W.region rfl<|qm rfl rfl rfl ?_
 refine ag4 rfl ?_
 refine agY rfl ?_
 refine agY rfl ?_
 refine agX rfl ?_
 refine agW (dM rfl rfl) rfl ?_
 refine ag1 rfl ?_
 refine qm rfl rfl rfl<|pq<|W.block ?_
 refine W.loop (σ:=Nat) (fun n=>n≤B0.hs.length+1) (fun n=>[(18,I n),(17,I ((B0.hs.length:Int)+1)),(5,B8 (aAE B0 Jq n)),(0,bI b),(1,I Jq)]) (fun _=>[(b,awQ vs vr vm (.slice a4 B0.hs.length cap4) vp β),(β,axd (WM B0))]) (fun n=>B0.hs.length+1-n) 0 (Nat.zero_le _) ⟨rfl,rfl,rfl,rfl,rfl,trivial⟩ .refl ?_
 rintro n hn
 refine W.seq<|W.region rfl ?_
 refine agW (fO rfl rfl rfl) rfl ?_
 refine pq<|W.seq ?_
 refine W.bC rfl (fun c19=>?_) (fun c19=>?_)
 ·have hn5:n≤5:=by omega
  refine W.skip<|aA<|W.seq<|W.block<|W.seq<|W.region rfl<|qm rfl rfl rfl<|agb rfl rfl rfl<|pq ?_
  refine W.seq<|W.region rfl<|agb rfl rfl rfl<|pq<|W.seq<|W.seq<|W.region rfl<|qm rfl rfl rfl ?_
  refine ag4 rfl ?_
  refine agY rfl ?_
  refine agX rfl ?_
  refine oe rfl wn rfl rfl (aG0 rfl rfl (.tail _ (.head _)) fun βr=>?_)
  refine pq<|W.block ?_
  refine W.loop (σ:=List Nat) (fun sn=>True) (fun sn=>[(25,bI βr),(7,.bool (sn.all (aD_ B0 Jq n))),(6,I n),(18,I n),(17,I ((B0.hs.length:Int)+1)),(5,B8 (aAE B0 Jq n)),(0,bI b),(1,I Jq)]) (fun sn=>[(βr,.mapIter (some β) (WM B0).length sn.toArray (WM B0).length),(b,awQ vs vr vm (.slice a4 B0.hs.length cap4) vp β),(β,axd (WM B0))]) (fun sn=>aID (WM B0).length sn) [] trivial ⟨rfl,rfl,rfl,rfl,rfl,rfl,rfl,rfl,trivial⟩ .refl ?_
  rintro sn -
  refine W.seq<|W.region rfl ?_
  refine oe rfl wn rfl rfl (aKA rfl rfl (.tail _ (.tail _ (.head _))) .head ?_ ?_)
  ·intro i p hp hi
   obtain⟨x,hx,rfl⟩:∃x,(ayo B0)[i]? =some x∧p=aF_ B0 x:=by
    rw[WM,List.getElem?_map]at hp
    obtain⟨x,h1,h2⟩:=Option.map_eq_some_iff.1 hp
    exact⟨x,h1,h2.symm⟩
   have hxm:=List.mem_of_getElem? hx
   obtain⟨hp5,Du⟩:=aJE ok hxm
   have hnx:=aHU (Jq:=Jq) (t:=n) (sn:=sn) hx
   have hsp:SpB ((axX B0 (MF x)).getD Jq ⟨0,0⟩):=SpL.getD (by rw[←aEb];exact aFH ok (fun j t ht=>aAU ok.rp Du ht) (Nat.le_refl _)) Jq
   have had:=aAU (rs:=B0.rs) (Jq:=Jq) (t:=n) ok.rp Du hn5
   unfold SpB at hsp
   refine oq (bD rfl rfl rfl) rfl wn rfl rfl<|pq<|W.seq ?_
   refine W.cond rfl (fun c27=>?_) (fun c27=>?_)
   ·refine W.skip<|aA<|W.block<|W.seq<|W.region rfl ?_
    refine oe rfl wn rfl rfl (aJF (i:=i) rfl rfl (.tail _ (.tail _ (.head _))) (.head _) hp ?_)
    refine agW (bD rfl rfl rfl) rfl ?_
    refine Ops.new (fun Uw=>?_)
    first | refine Ops.jP ?_ | refine Ops.nY ?_
    refine pq<|W.seq<|W.region rfl<|qm rfl rfl rfl ?_
    first | refine ag2 rfl ?_ | refine agW (ady rfl rfl) rfl ?_
    refine qm rfl rfl rfl<|qm rfl rfl rfl ?_
    refine cp (fun h' hE hL=>aIH _ h' b β vs vr vm _ vp B0.rs (axX B0 (MF x)) (azh B0 (MF x)) (MF x) Jq n (hL b _ (by repeat(first | exact List.Mem.head _ | apply List.Mem.tail))) (H.rm.ext hE) ok.rp (by omega) (by omega) (by omega) hp5 hn5 Du) ?_
    refine Ops.new (fun Oj=>?_)
    first | refine Ops.jP ?_ | refine Ops.nY ?_
    refine pq<|W.region rfl<|qm rfl rfl rfl<|qm rfl rfl rfl ?_
    refine Ops.RV (fun aLo=>?_) (fun aLo=>?_)
    ·refine oq (aN rfl rfl) rfl (ak rfl rfl rfl) rfl rfl ?_
     refine oq (ay rfl rfl) rfl (ak rfl rfl rfl) rfl rfl ?_
     refine oq (iQ rfl rfl) rfl (ak rfl rfl rfl) rfl rfl ?_
     refine cp (fun h' hE hL=>aFg _ h' b β vs vr vm _ vp B0.ms _ (hL b _ (by repeat(first | exact List.Mem.head _ | apply List.Mem.tail))) (H.mm.ext hE) ok.mp) ?_
     refine oq (nD rfl rfl rfl) rfl (ak rfl rfl rfl) rfl rfl ?_
     refine agW (dG rfl rfl rfl) rfl ?_
     refine qm rfl rfl rfl ?_
     refine Ops.ask (fun aLp=>?_) (fun aLp=>?_)
     ·refine oq (aN rfl rfl) rfl (ak rfl rfl rfl) rfl rfl ?_
      refine oq (ay rfl rfl) rfl (ak rfl rfl rfl) rfl rfl ?_
      refine oq (iQ rfl rfl) rfl (ak rfl rfl rfl) rfl rfl ?_
      refine cp (fun h' hE hL=>aFg _ h' b β vs vr vm _ vp B0.ms _ (hL b _ (by repeat(first | exact List.Mem.head _ | apply List.Mem.tail))) (H.mm.ext hE) ok.mp) ?_
      refine oq (nD rfl rfl rfl) rfl (ak rfl rfl rfl) rfl rfl ?_
      refine agW (dG rfl rfl rfl) rfl ?_
      refine agb rfl rfl rfl<|Ops.nil<|dI<|aA ?_
      have hil:=(List.getElem?_eq_some_iff.1 hp).1
      refine⟨rfl,sn++[i],trivial,aD9 hil hi,⟨rfl,lk rfl (congrArg Value.bool (by rw[hnx,aFe];simp only[*,decide_true,decide_false,Bool.and_true,Bool.true_and,Bool.false_and,Bool.and_false])),rfl,rfl,rfl,rfl,rfl,rfl,trivial⟩,?_⟩
      exact .skip rfl (.skip rfl .refl)
     ·refine Ops.no ?_
      refine Ops.no ?_
      refine Ops.no ?_
      refine Ops.no ?_
      refine Ops.no ?_
      refine agW (iH rfl rfl rfl) rfl ?_
      refine agb rfl rfl rfl<|Ops.nil<|dI<|aA ?_
      have hil:=(List.getElem?_eq_some_iff.1 hp).1
      refine⟨rfl,sn++[i],trivial,aD9 hil hi,⟨rfl,lk rfl (congrArg Value.bool (by rw[hnx,aFe];simp only[*,decide_true,decide_false,Bool.and_true,Bool.true_and,Bool.false_and,Bool.and_false])),rfl,rfl,rfl,rfl,rfl,rfl,trivial⟩,?_⟩
      exact .skip rfl (.skip rfl .refl)
    ·refine Ops.no ?_
     refine Ops.no ?_
     refine Ops.no ?_
     refine Ops.no ?_
     refine Ops.no ?_
     refine agW (iH rfl rfl rfl) rfl ?_
     refine qm rfl rfl rfl ?_
     refine Ops.no ?_
     refine Ops.no ?_
     refine Ops.no ?_
     refine Ops.no ?_
     refine Ops.no ?_
     refine agW (iH rfl rfl rfl) rfl ?_
     refine agb rfl rfl rfl<|Ops.nil<|dI<|aA ?_
     have hil:=(List.getElem?_eq_some_iff.1 hp).1
     refine⟨rfl,sn++[i],trivial,aD9 hil hi,⟨rfl,lk rfl (congrArg Value.bool (by rw[hnx,aFe];simp only[*,decide_true,decide_false,Bool.and_true,Bool.true_and,Bool.false_and,Bool.and_false])),rfl,rfl,rfl,rfl,rfl,rfl,trivial⟩,?_⟩
     exact .skip rfl (.skip rfl .refl)
   ·exact absurd ‹_› (by decide)
  ·intro hall
   have hcov:=aIF (B:=B0) (Jq:=Jq) (t:=n) (sn:=sn) (fun i hi=>hall i (by rw[hml];exact hi))
   rw[hcov]
   refine oq (bD rfl rfl rfl) rfl wn rfl rfl<|pq<|W.seq ?_
   refine W.cond rfl (fun c27=>?_) (fun c27=>?_)
   ·exact absurd ‹_› (by decide)
   ·refine W.exit<|bP<|bP<|gG<|aA<|W.seq<|W.region rfl<|qm rfl rfl rfl<|pq ?_
    refine W.cond rfl (fun c50=>?_) (fun c50=>?_)
    ·refine W.region rfl<|qm rfl rfl rfl<|qm rfl rfl rfl ?_
     refine cp (fun h' hE hL=>aGc _ h' (aAE B0 Jq n) n (Nat.lt_of_lt_of_le aD1 (Nat.pow_le_pow_right (by decide) (by omega:n≤6))) (by omega)) ?_
     refine agb rfl rfl rfl<|Ops.nil<|dI<|aA<|W.region rfl ?_
     refine ag1 rfl ?_
     refine qm rfl rfl rfl<|pq ?_
     refine⟨rfl,n+1,by omega,by omega,⟨rfl,rfl,lk rfl (congrArg (fun(m:Nat)=>B8 m) (show _=aAE B0 Jq (n+1) by rw[aAE,if_pos (by simp[*])])),rfl,rfl,trivial⟩,.skip rfl .refl⟩
    ·refine W.skip<|dI<|aA<|W.region rfl ?_
     refine ag1 rfl ?_
     refine qm rfl rfl rfl<|pq ?_
     refine⟨rfl,n+1,by omega,by omega,⟨rfl,rfl,lk rfl (congrArg (fun(m:Nat)=>B8 m) (show _=aAE B0 Jq (n+1) by rw[aAE,if_neg (by simp[*])])),rfl,rfl,trivial⟩,.skip rfl .refl⟩
 ·obtain rfl:n=B0.hs.length+1:=by omega
  refine W.exit<|bP<|bP<|gG<|aA<|W.seq<|W.region rfl<|qm rfl rfl rfl<|agb rfl rfl rfl<|Ops.nil ?_
  refine aA<|W.ret ?_
  exact mg ⟨rfl,.refl⟩
end Go.aS

/- Strike. Conditions: none; over the given program. -/
namespace Go.aS
set_option maxRecDepth 100000
set_option maxHeartbeats 1000000
def WR(B:Boi)(Jq:Nat):List Int:=((List.range (B.hs.length+1)).filter fun t=>aAD B Jq t).map fun(i:Nat)=>(i:Int)
theorem aFh{f:Nat→Bool}{k:Nat}:((List.range (k+1)).filter f).map (fun(i:Nat)=>(i:Int))=(((List.range k).filter f).map fun(i:Nat)=>(i:Int))++(if f k then[(k:Int)]else[]):=by
 rw[List.range_succ,List.filter_append,List.map_append]
 by_cases h:f k <;>simp[h]
theorem aFi(main:Side)(h:Hp)(vs vr vm vh vp:Value)(B0:Boi)(ok:BOK B0)(hne:1≤(ayo B0).length)(Jq:Nat)(aGd:Jq<B0.ss.length)(H:aBp h vs vr vm vh vp B0):
  dV prog main aA7 #[ax8 vs vr vm vh vp,I Jq] h [] (fun v A=>∃w S,v= .tuple #[w,I (if WR B0 Jq=[]then 11 else 0)]∧Os dL fH w (WR B0 Jq) S∧Sb S A):=by
 have hh5:=ok.h2
 obtain⟨a4,cap4,hvh⟩:=H.hm.dA
 subst hvh
 refine dV.aG aDs rfl (by show 2≤45;decide) [(0,ax8 vs vr vm (.slice a4 B0.hs.length cap4) vp),(1,I Jq)] ⟨rfl,rfl,trivial⟩ ?_
 refine W.seq<|W.region rfl ?_
 refine Ops.box (fun yR=>?_)
 refine agb rfl rfl rfl<|agb rfl rfl rfl<|pq<|W.seq<|W.region rfl ?_
 first | refine ag2 rfl ?_ | refine agW (ady rfl rfl) rfl ?_
 refine qm rfl rfl rfl ?_
 refine Ops.NK (cs:= #[I Jq]) (fun apR=>?_) rfl
 refine c0 (fun h' hE hL=>aGb _ h' vs vr vm _ vp _ B0 [(Jq:Int)] ok hne (H.ext hE) (Sl.mk (hL apR _ (.head _)) rfl (Part.all (flat fH [(Jq:Int)]))) (Nat.le_refl _) (fun n hn=>by rw[List.mem_singleton.1 hn];omega)) (fun v A' hv=>?_)
 obtain⟨b,β,rfl,hsb⟩:=hv
 refine Ops.sb (hsb.app .refl) ?_
 refine qm rfl rfl rfl<|oq (bD rfl rfl rfl) rfl wn rfl rfl<|oq (bD rfl rfl rfl) rfl wn rfl rfl<|agb rfl rfl rfl<|agb rfl rfl rfl<|pq<|W.seq<|W.seq<|W.region rfl ?_
 refine qm rfl rfl rfl ?_
 refine agW (nG rfl rfl rfl) rfl ?_
 refine pq ?_
 refine W.bC rfl (fun c20=>?_) (fun c20=>?_)
 ·refine W.seq<|W.region rfl<|qm rfl rfl rfl<|agb rfl rfl rfl<|agb rfl rfl rfl<|pq<|W.ret<|aY ?_
  exact absurd rfl ‹_›
 ·refine W.skip<|aA<|W.seq<|W.region rfl<|qm rfl rfl rfl<|qm rfl rfl rfl ?_
  refine cg (A:=[(b,_),(β,_)]) .head (fun h' hE hL=>aFf _ h' b β vs vr vm _ vp B0 ok Jq aGd (H.ext hE)) (fun v A' hv=>?_)
  obtain⟨rfl,hsb⟩:=hv
  refine Ops.sb (hsb.app .refl) ?_
  refine agb rfl rfl rfl<|agb rfl rfl rfl<|pq<|W.seq<|W.region rfl<|agb rfl rfl rfl<|pq<|W.seq ?_
  refine W.seq<|W.region rfl ?_
  refine agY rfl ?_
  refine agX rfl ?_
  refine agW (dM rfl rfl) rfl ?_
  refine ag1 rfl ?_
  refine qm rfl rfl rfl<|pq<|W.block ?_
  refine W.Js (fun(k:Nat) (v:Value) (S:eG)=>k≤B0.hs.length+1∧Os dL fH v (((List.range k).filter fun t=>aAD B0 Jq t).map fun(i:Nat)=>(i:Int)) S) (fun k v S=>[(29,I k),(28,I ((B0.hs.length:Int)+1)),(10,v),(9,.func (.func aw9) #[] #[]),(8,B8 (aAE B0 Jq (B0.hs.length+1)))]) (fun k v S=>S) (fun k _ _=>B0.hs.length+1-k) 0 (.slice none 0 0) [] ⟨Nat.zero_le _,.nil .nil⟩ ⟨rfl,rfl,rfl,rfl,rfl,trivial⟩ TW ?_
  rintro k v S ⟨hk,hS⟩
  refine W.seq<|W.region rfl ?_
  refine agW (fO rfl rfl rfl) rfl ?_
  refine pq<|W.seq ?_
  refine W.bC rfl (fun c30=>?_) (fun c30=>?_)
  ·have hk6:k<6:=by omega
   have hlen:(((List.range k).filter fun t=>aAD B0 Jq t).map fun(i:Nat)=>(i:Int)).length≤6:=by rw[List.length_map];exact Nat.le_trans (List.length_filter_le ..) (by simp;omega)
   have hbit:(aAE B0 Jq (B0.hs.length+1)).testBit k=aAD B0 Jq k:=by rw[aEa];simp;intro;omega
   refine W.skip<|aA<|W.seq<|W.block<|W.seq<|W.region rfl<|qm rfl rfl rfl<|agb rfl rfl rfl<|pq ?_
   refine W.seq<|W.region rfl<|qm rfl rfl rfl<|qm rfl rfl rfl<|qm rfl rfl rfl ?_
   refine cv (u:=.bool (aAD B0 Jq k)) (fun h' hE hL=>gZ.zh (f:=aw9) (fi:=[]) (args:=[B8 _,I k]) (ca:=[]) (hbit▸aFF _ h' _ k (Nat.lt_of_lt_of_le aD1 (Nat.pow_le_pow_right (by decide) (by omega:B0.hs.length+1≤6))) hk6)) ?_
   refine pq ?_
   refine W.cond rfl (fun c35=>?_) (fun c35=>?_)
   ·refine W.region rfl<|qm rfl rfl rfl<|qm rfl rfl rfl ?_
    refine Ops.NK (cs:= #[I k]) (fun aiA=>?_) rfl
    refine oe rfl wn rfl rfl (iW (row:=fH) (l':=[(k:Int)]) rfl rfl rfl hS (.tail .all) (fun h2 _ hl=>Sl.mk (hl aiA _ (.head _)) rfl (Part.all [I k])) (by rw[List.length_map]at hlen;simp;omega) (by decide) rfl (fun v' S' hS'=>?_))
    refine agb rfl rfl rfl<|Ops.nil<|dI<|aA<|W.region rfl ?_
    refine ag1 rfl ?_
    refine qm rfl rfl rfl<|pq ?_
    refine⟨rfl,k+1,v',S',⟨by omega,by rw[aFh,if_pos (by simp[*])];exact hS'⟩,by omega,⟨lk rfl (show I _=I _ by congr 1),rfl,rfl,rfl,rfl,trivial⟩,.skip rfl .refl⟩
   ·refine W.skip<|dI<|aA<|W.region rfl ?_
    refine ag1 rfl ?_
    refine qm rfl rfl rfl<|pq ?_
    refine⟨rfl,k+1,v,S,⟨by omega,by rw[aFh,if_neg (by simp[*]),List.append_nil];exact hS⟩,by omega,⟨lk rfl (show I _=I _ by congr 1),rfl,rfl,rfl,rfl,trivial⟩,.refl⟩
  ·obtain rfl:k=B0.hs.length+1:=by omega
   replace hS:Os dL fH v (WR B0 Jq) S:=hS
   obtain⟨a,cap,rfl⟩:=hS.dA
   have hl6:(WR B0 Jq).length≤6:=by rw[WR,List.length_map];exact Nat.le_trans (List.length_filter_le ..) (by simp;omega)
   refine W.exit<|bP<|bP<|gG<|aA<|W.seq<|W.seq<|W.region rfl<|qm rfl rfl rfl ?_
   refine agW (dM rfl rfl) rfl ?_
   refine agW (nD rfl rfl rfl) rfl ?_
   refine pq ?_
   refine W.bC rfl (fun c43=>?_) (fun c43=>?_)
   ·refine W.seq<|W.region rfl<|agb rfl rfl rfl<|agb rfl rfl rfl<|pq<|W.ret<|aY ?_
    have h0:WR B0 Jq=[]:=List.eq_nil_of_length_eq_zero (by first | omega | (simp only[decide_eq_true_eq]at*;omega))
    refine mg (vs:=[.slice none 0 0,I 11]) ⟨.slice none 0 0,[],by rw[if_pos h0];rfl,by rw[h0];exact .nil .nil,.nil hS.shut⟩
   ·refine W.skip<|aA<|W.seq<|W.region rfl<|qm rfl rfl rfl<|agb rfl rfl rfl<|agb rfl rfl rfl<|pq<|W.ret ?_
    have h0:WR B0 Jq≠[]:=fun e=>by
     have:(WR B0 Jq).length=0:=by rw[e];rfl
     first | omega | (simp at*;done) | (simp only[decide_eq_true_eq]at*;omega)
    refine mg (vs:=[_,I 0]) ⟨_,S,by rw[if_neg h0];rfl,hS,.refl⟩
theorem aJG(main:Side)(h:Hp)(n:Nat)(hn:n≤100):dV prog main aCq #[I 0,I n] h [] (fun v A=>Os dL fH v ((List.range n).map fun(i:Nat)=>(i:Int)) A):=by
 refine dV.aG aEc rfl (by show 2≤18;decide) [(0,I 0),(1,I n)] ⟨rfl,rfl,trivial⟩ ?_
 refine W.seq<|W.region rfl<|agb rfl rfl rfl<|pq<|W.seq<|W.region rfl<|agb rfl rfl rfl<|pq ?_
 refine W.seq<|W.seq<|W.region rfl<|qm rfl rfl rfl<|agb rfl rfl rfl<|pq<|W.block ?_
 refine W.Js (fun(k:Nat) (v:Value) (S:eG)=>k≤n∧Os dL fH v ((List.range k).map fun(i:Nat)=>(i:Int)) S) (fun k v S=>[(6,I k),(1,I n),(5,v)]) (fun k v S=>S) (fun k _ _=>n-k) 0 (.slice none 0 0) [] ⟨Nat.zero_le _,.nil .nil⟩ ⟨rfl,rfl,rfl,trivial⟩ .refl ?_
 rintro k v S ⟨hk,hS⟩
 refine W.seq<|W.seq<|W.region rfl<|qm rfl rfl rfl<|qm rfl rfl rfl ?_
 refine agW (fO rfl rfl rfl) rfl ?_
 refine pq ?_
 refine W.bC rfl (fun c10=>?_) (fun c10=>?_)
 ·refine W.skip<|aA<|W.seq<|W.block<|W.region rfl<|qm rfl rfl rfl<|qm rfl rfl rfl ?_
  refine Ops.NK (cs:= #[I k]) (fun apR=>?_) rfl
  refine oe rfl wn rfl rfl (iW (row:=fH) (l':=[(k:Int)]) rfl rfl rfl hS (.tail .all) (fun h2 _ hl=>Sl.mk (hl apR _ (.head _)) rfl (Part.all [I k])) (by simp;omega) (by decide) rfl (fun v' S' hS'=>?_))
  refine agb rfl rfl rfl<|Ops.nil<|dI<|aA<|W.region rfl<|qm rfl rfl rfl ?_
  refine ag1 rfl ?_
  refine agb rfl rfl rfl<|pq ?_
  refine⟨rfl,k+1,v',S',⟨by omega,by rw[List.range_succ,List.map_append];exact hS'⟩,by omega,⟨lk rfl (show I _=I _ by congr 1),rfl,rfl,trivial⟩,.skip rfl .refl⟩
 ·obtain rfl:k=n:=by omega
  refine W.exit<|bP<|bP<|gG<|aA<|W.seq<|W.region rfl<|qm rfl rfl rfl<|agb rfl rfl rfl<|Ops.nil ?_
  refine aA<|W.ret ?_
  exact mg (vs:=[_]) hS
end Go.aS

/- What the best plan says of strikes of one cone on one floor; how many pans stand in a list. Conditions: none. -/
namespace Go.aS
/-! Sums of counts -/
def sN(g:Nat→Nat):Nat→Nat
 | 0=>0
 | k+1=>sN g k+g k
theorem aJH{g:Nat→Nat}{a b:Nat}(h:a≤b):sN g a≤sN g b:=by
 induction b with
 | zero=>rw[Nat.le_zero.1 h];exact Nat.le_refl _
 | succ b ih=>
  rcases Nat.lt_or_ge a (b+1)with h' | h'
  ·exact Nat.le_trans (ih (by omega)) (Nat.le_add_right ..)
  ·rw[Nat.le_antisymm h h'];exact Nat.le_refl _
theorem aIJ{g g':Nat→Nat}:∀k,sN (fun i=>g i+g' i) k=sN g k+sN g' k
 | 0=>rfl
 | k+1=>by simp only[sN,aIJ k];omega
theorem aLr:∀k,sN (fun _=>0) k=0
 | 0=>rfl
 | k+1=>by simp only[sN,aLr k]
theorem aFI{g:Nat→Nat→Nat}{P:Nat}:∀D,sN (fun d=>sN (fun p=>g d p) P) D=sN (fun p=>sN (fun d=>g d p) D) P
 | 0=>(aLr P).symm
 | D+1=>by
  simp only[sN,aFI D]
  exact(aIJ P).symm
theorem aKn{g:Nat→Nat}:∀{k:Nat},(∀i,i<k→g i≤1)→sN g k≤k
 | 0,_=>Nat.le_refl _
 | k+1,h=>by
  have h1:=aKn (k:=k) fun i hi=>h i (by omega)
  have h2:=h k (by omega)
  simp only[sN];omega
theorem aKo{g:Nat→Nat}:∀{k:Nat},(∀i,i<k→g i=1)→sN g k=k
 | 0,_=>rfl
 | k+1,h=>by
  have h1:=aKo (k:=k) fun i hi=>h i (by omega)
  have h2:=h k (by omega)
  simp only[sN];omega
theorem aG2{x:Option Int}:∀D:Nat,sN (fun d=>if x=some (d:Int)then 1 else 0) D=if∃d:Nat,d<D∧x=some (d:Int)then 1 else 0
 | 0=>by rw[if_neg (by rintro⟨d,h,-⟩;omega)];rfl
 | D+1=>by
  simp only[sN,aG2 D]
  by_cases h:x=some (D:Int)
  ·rw[if_pos h,if_neg,if_pos ⟨D,by omega,h⟩]
   rintro⟨d,hd,e⟩
   rw[h]at e
   have:(D:Int)=d:=Option.some.inj e
   omega
  ·rw[if_neg h,Nat.add_zero]
   by_cases h':∃d:Nat,d<D∧x=some (d:Int)
   ·obtain⟨d,hd,e⟩:=h'
    rw[if_pos ⟨d,hd,e⟩,if_pos ⟨d,by omega,e⟩]
   ·rw[if_neg h',if_neg]
    rintro⟨d,hd,e⟩
    rcases Nat.lt_or_ge d D with h1 | h1
    ·exact h' ⟨d,h1,e⟩
    ·obtain rfl:d=D:=by omega
     exact h e

/-! The list of the law -/
def hd1(B:Boi)(d p:Nat):Nat:=if(WR B p).head? =some (d:Int)then 1 else 0
def Dp(B:Boi)(d q:Nat):Nat:=sN (fun d=>sN (fun p=>hd1 B d p) B.ss.length) d+sN (fun p=>hd1 B d p) q
theorem aDt{B:Boi}{D:Nat}:Dp B D 0≤B.ss.length:=by
 show sN (fun d=>sN (fun p=>hd1 B d p) B.ss.length) D+0≤_
 rw[Nat.add_zero,aFI]
 refine aKn fun p hp=>?_
 simp only[hd1,aG2]
 split <;>omega
theorem Gm{B:Boi}{d:Nat}:Dp B d B.ss.length=Dp B (d+1) 0:=rfl
theorem aJI{B:Boi}{d q:Nat}(hq:q≤B.ss.length):Dp B d q≤B.ss.length:=by
 have h1:Dp B d q≤Dp B d B.ss.length:=Nat.add_le_add_left (aJH hq) _
 rw[Gm]at h1
 exact Nat.le_trans h1 aDt
theorem aHx{B:Boi}{Jq:Nat}{x:Int}(h:x∈WR B Jq):0≤x∧x≤B.hs.length:=by
 simp only[WR,List.mem_map,List.mem_filter,List.mem_range]at h
 obtain⟨i,⟨h1,-⟩,rfl⟩:=h
 omega
theorem YZ{B:Boi}(h:∀j,j<B.ss.length→WR B j≠[]):Dp B (B.hs.length+1) 0=B.ss.length:=by
 show sN (fun d=>sN (fun p=>hd1 B d p) B.ss.length) (B.hs.length+1)+0=_
 rw[Nat.add_zero,aFI]
 refine aKo fun p hp=>?_
 simp only[hd1,aG2]
 have hne:=h p hp
 rcases hl:WR B p with _ | ⟨x,r⟩
 ·exact absurd hl hne
 ·have hx:=aHx (show x∈WR B p by rw[hl];exact List.mem_cons_self ..)
  rw[if_pos ⟨x.toNat,by omega,by rw[List.head?_cons];congr 1;omega⟩]
theorem aHy{B:Boi}{Jq:Nat}:(WR B Jq).length≤B.hs.length+1:=by
 rw[WR,List.length_map]
 exact Nat.le_trans (List.length_filter_le ..) (by simp)

structure LdI(B:Boi)(d q:Nat)(ss:List St)(ts:List (List Int)):Prop where
 len:ss.length=ts.length
 cnt:ss.length=Dp B d q
 day:∀s∈ss,0≤s.day∧s.day≤d∧s.day≤B.hs.length∧s.co=1∧0≤s.wa∧s.wa≤3
 ck:U8 0 ss=0
 at_:∀(i:Nat) s t,ss[i]? =some s→ts[i]? =some t→t.length≤B.hs.length+1∧∀x,s.day≤x→x≤s.day+s.wa→x∈t
theorem LdI.nil{B:Boi}:LdI B 0 0 [] []:=⟨rfl,rfl,fun s h=>(by cases h),rfl,fun i s t h=>(by cases h)⟩
theorem LdI.row{B:Boi}{d:Nat}{ss:List St}{ts:List (List Int)}(h:LdI B d B.ss.length ss ts):LdI B (d+1) 0 ss ts:=
 ⟨h.len,h.cnt.trans Gm,fun s hs=>by have:=h.day s hs;omega,h.ck,h.at_⟩
theorem LdI.skip{B:Boi}{d q:Nat}{ss:List St}{ts:List (List Int)}(h:LdI B d q ss ts)(hn:(WR B q).head? ≠some (d:Int)):LdI B d (q+1) ss ts:=by
 refine⟨h.len,?_,h.day,h.ck,h.at_⟩
 rw[h.cnt]
 show _=_+(_+hd1 B d q)
 rw[hd1,if_neg hn];rfl
theorem aGe{x:St}:∀{ss:List St} {b:Int},U8 b ss=0→(∀s∈ss,s.day≤x.day)→b≤x.day→(∀c,c≤x.day→asc c x=0)→U8 b (ss++[x])=0
 | [],b,_,_,hb,hx=>by simp[U8,hx b hb]
 | s::ss,b,h,hd,hb,hx=>by
  simp only[U8,List.cons_append]at h⊢
  by_cases e:asc b s=0
  ·rw[if_pos e]at h⊢
   exact aGe h (fun y hy=>hd y (.tail _ hy)) (hd s (.head _)) hx
  ·rw[if_neg e]at h;exact absurd h e
theorem LdI.add{B:Boi}{d q:Nat}{ss:List St}{ts:List (List Int)}{w:Int}(h:LdI B d q ss ts)(hd:(WR B q).head? =some (d:Int))(hh:B.hs.length≤5)(hw0:0≤w)(hw:w≤3)(hm:∀x:Int,d≤x→x≤d+w→x∈WR B q):LdI B d (q+1) (ss++[⟨d,1,w⟩]) (ts++[WR B q]):=by
 have hdd:(d:Int)≤B.hs.length:=by
  rcases hl:WR B q with _ | ⟨x,r⟩
  ·rw[hl]at hd;cases hd
  ·have hx:=aHx (show x∈WR B q by rw[hl];exact List.mem_cons_self ..)
   rw[hl]at hd
   have:x=d:=Option.some.inj hd
   omega
 refine⟨by simp[h.len],?_,fun s hs=>?_,aGe h.ck (fun s hs=>(h.day s hs).2.1) (show(0:Int)≤(d:Int) by omega) fun c hc=>?_,fun i s t hs ht=>?_⟩
 ·rw[List.length_append,h.cnt]
  show _=_+(_+hd1 B d q)
  rw[hd1,if_pos hd];rfl
 ·rcases List.mem_append.1 hs with hs | hs
  ·exact h.day s hs
  ·rw[List.mem_singleton.1 hs];exact⟨show(0:Int)≤d by omega,Int.le_refl _,hdd,rfl,hw0,hw⟩
 ·unfold asc
  rw[if_neg (show¬(outs (d:Int) 0 12∨outs 1 1 6∨outs w 0 3) by unfold outs;omega),if_neg (show¬(d:Int)<c from by have:c≤(d:Int):=hc;omega)]
 ·rcases Nat.lt_or_ge i ss.length with hi | hi
  ·rw[List.getElem?_append_left hi]at hs
   rw[List.getElem?_append_left (by rw[←h.len];exact hi)]at ht
   exact h.at_ i s t hs ht
  ·rw[List.getElem?_append_right hi]at hs
   rw[List.getElem?_append_right (by rw[←h.len];exact hi),←h.len]at ht
   obtain⟨rfl⟩:ss.length=i:=by
    rcases Nat.lt_or_ge (i-ss.length) 1 with h1 | h1
    ·omega
    ·rw[List.getElem?_eq_none (by simpa using h1)]at hs;cases hs
   rw[Nat.sub_self]at hs ht
   cases hs;cases ht
   exact⟨aHy,hm⟩

/-! What is best -/
def aB9(l:List Be)(k:Nat):Int:=ay2 (fun i=>if 0≤(qw l i).fl then 1 else 0) k
theorem aIK{f:Fl}{ss:List St}(hck:Y2 [f] ss=0)(hco:∀s∈ss,s.co=1):
  (∀(i:Nat) b s,(aye [f] ss).1[i]? =some b→ss[i]? =some s→0≤b.fl→s.day≤b.day∧b.day≤s.day+s.wa)∧(awR [f] ss).1=aB9 (aye [f] ss).1 ss.length∧((∀s∈ss,s.day≤8)→f.co=9→(ss.length:Int)<f.pl→(awR [f] ss).1=ss.length):=by
 have hall:=aFJ hck
 have hns:=hall.ns
 obtain⟨-,htop,hout⟩:=aHW hall
 obtain⟨p,r,hpr⟩:∃p r,(awR [f] ss).2=p::r:=by
  cases h:(awR [f] ss).2 with
  | nil=>exact absurd h (aEd hall)
  | cons p r=>exact⟨p,r,rfl⟩
 have hp:p∈(awR [f] ss).2:=hpr▸List.mem_cons_self ..
 rw[hout,List.mem_filter]at hp
 obtain⟨hpa,hpl⟩:=hp
 have hpl':awM ss p=(awR [f] ss).1:=by simpa using hpl
 obtain⟨hv,hin⟩:=(aGf hall).1 hpa
 have hbB:(aye [f] ss).1=p.take ss.length:=by simp only[aye];rw[if_neg (by simp[hck]),hpr];rfl
 have hlen:=hv.len
 have hst:∀i,i<ss.length→(ax6 ss i).co=1∧ax6 ss i∈ss:=fun i hi=>by
  have e:ax6 ss i=ss[i]:=by simp[ax6,List.getD,List.getElem?_eq_getElem hi]
  have hm:ax6 ss i∈ss:=e▸List.getElem_mem hi
  exact⟨hco _ hm,hm⟩
 have hsum:∀q,awM ss q=aB9 q ss.length:=fun q=>by
  rw[aG3 hall]
  refine ay6 fun i hi=>?_
  simp only[coG]
  rw[(hst i hi).1]
 have hset:aB9 (p.take ss.length) ss.length=aB9 p ss.length:=ay6 fun i hi=>by
  have:qw (p.take ss.length) i=qw p i:=by simp only[qw,List.getD,take_at hi]
  rw[this]
 refine⟨fun i b s hb hs h0=>?_,?_,fun hd hc9 hlt=>?_⟩
 ·have hi:i<ss.length:=(List.getElem?_eq_some_iff.1 hs).1
  rw[hbB,take_at hi]at hb
  have hb':qw p i=b:=by simp[qw,List.getD,hb]
  have hs':ax6 ss i=s:=by simp[ax6,List.getD,hs]
  have hm:=hv.at_ i hi
  rw[aEe,hb',hs']at hm
  have hw:=hall.st s (List.mem_of_getElem? hs)
  rcases hm with⟨-,e⟩ | ⟨-,-,-,h1,h2⟩
  ·rw[e]at h0;simp[TL]at h0
  ·omega
 ·rw[hbB,hset,←hsum,hpl']
 ·
  obtain⟨q,hq4,hqa⟩:∃q:List Be,q.length=4∧∀i,qw q i=if i<ss.length then⟨0,(ax6 ss i).day⟩else TL:=by
   refine⟨aw5 (ss.map fun s=>⟨0,s.day⟩),aC5 (by simpa using hns),fun i=>?_⟩
   by_cases hi:i<ss.length
   ·rw[if_pos hi]
    simp[qw,aw5,List.getD,List.getElem?_append_left,hi,ax6]
   ·rw[if_neg hi]
    simp only[qw,aw5,List.getD]
    rw[List.getElem?_append_right (by simpa using hi),List.getElem?_replicate]
    split <;>rfl
  have hvq:Valid [f] ss azx q:=by
   refine⟨hq4,fun i hi=>?_,fun i hi=>by rw[hqa,if_neg (by omega)]⟩
   rw[hqa,if_pos hi,aEe]
   have hw:=hall.st _ (hst i hi).2
   exact .inr ⟨rfl,Int.le_refl _,by simp,Int.le_refl _,by simp only;omega⟩
  have hpq:=aG4 hall hvq
  have hf:=hall.fl f (by simp)
  have hin:az1 [f] ss q=none:=by
   rw[aFj hall hpq.ok]
   intro g hg0 hg1 n hbad
   obtain rfl:g=0:=by simp at hg1;omega
   have hfl:Wy [f] 0=f:=rfl
   rcases hbad with⟨h1,h2,h3⟩ | ⟨a,hon,hn,⟨b,⟨j,hj,hj1,hj2⟩,hlt'⟩,-⟩
   ·rw[hfl]at h3
    have:aHX [f] ss q 0 n≤ay2 (fun i=>if i<ss.length then 1 else 0) 4:=aD2 fun i hi=>by
     simp only[hiG]
     split
     ·rename_i hc
      rw[hqa]at hc
      by_cases h':i<ss.length
      ·rw[if_pos h',(hst i h').1];exact Int.le_refl _
      ·rw[if_neg h']at hc;have:=hc.1;simp[TL]at this
     ·split <;>omega
    have h4:ay2 (fun i=>if i<ss.length then(1:Int)else 0) 4≤ss.length:=by
     simp only[ay2]
     (repeat' split) <;>omega
    omega
   ·rw[hfl]at hn
    have hj':j<ss.length:=by
     rcases Nat.lt_or_ge j ss.length with h | h
     ·exact h
     ·rw[hqa,if_neg (by omega)]at hj1;simp[TL]at hj1
    rw[hqa,if_pos hj']at hj2
    have h8:=hd _ (hst j hj').2
    simp only at hj2
    have ha:0≤a:=by
     obtain⟨i,hi,hi1,hi2⟩:=hon
     have:=(aEf hpq.ok i).1
     omega
    omega
  have hle:=htop q ((aGf hall).2 ⟨hvq,hin⟩)
  have hqn:awM ss q=ss.length:=by
   rw[hsum,aB9,ay6 (g':=fun _=>1) fun i hi=>by rw[hqa,if_pos hi];rfl]
   have:∀k:Nat,ay2 (fun _=>1) k=k:=fun k=>by
    induction k with
    | zero=>rfl
    | succ k ih=>simp only[ay2,ih];omega
   exact this _
  have hge:(awR [f] ss).1≤ss.length:=by
   rw[←hpl',hsum]
   have:aB9 p ss.length≤ay2 (fun _=>1) ss.length:=aD2 fun i hi=>by split <;>omega
   have h2:∀k:Nat,ay2 (fun _=>1) k=k:=fun k=>by
    induction k with
    | zero=>rfl
    | succ k ih=>simp only[ay2,ih];omega
   rw[h2]at this
   exact this
  omega
end Go.aS

/- append to a list that has no room behind it: what is new lies elsewhere. Conditions: none; over any program. -/
namespace Go.aS
section
variable{α:Type}{row:α→List Value}{w:Nat}[rw':Rw row w]
theorem aG5{P:Program}{h:Hp}{t t' ty E E' by':Nat}{z:Value}{zc:Array Value}[TD P t (.slice E)][TD P t' (.slice E')][TI P E w by' z zc]{a:Option Addr}{x:Value}{l l':List α}{Q:Value→eG→Prop}(hzc:zc.size=w)
  (hs:Sl h row (.slice a l.length l.length) l) (hx:Sl h row x l') (hl:0<l'.length) (hb:(2*(l.length+l'.length)+768)*by'≤2 ^ 48) (hby:0<by')
  (K:∀v' A',Os E row v' (l++l') A'→Q v' A'):tr P h (Builtin.append_ #[t,t'] ty #[.slice a l.length l.length,x]) [] Q:=by
 obtain⟨j,hj,hj1,hj2,hj3,hj4⟩:=TI.out (inferInstance:TI P E w by' z zc)
 have hm:((l.length+l'.length:Nat):Int)≤IntKind.i64.max:=by
  have h1:(2*(l.length+l'.length)+768)*1≤(2*(l.length+l'.length)+768)*by':=Nat.mul_le_mul_left _ hby
  have h2:IntKind.i64.max=9223372036854775807:=rfl
  omega
 obtain⟨ax,Q9,hxe,_⟩:=id hx
 subst hxe
 have e1:(#[t,t']:Array TypeId)[0]? =some t:=rfl
 have e2:(#[t,t']:Array TypeId)[1]? =some t':=rfl
 have e3:(#[Value.slice a l.length l.length,Value.slice ax l'.length Q9]:Array Value)[0]? =some (.slice a l.length l.length):=rfl
 have e4:(#[Value.slice a l.length l.length,Value.slice ax l'.length Q9]:Array Value)[1]? =some (.slice ax l'.length Q9):=rfl
 simp only[Builtin.append_,e1,e2,e3,e4,bind_eq,gq,bind_assoc,bind_pure,aC,dH,Bool.false_eq_true,if_false,Builtin.lenOf,Bool.not_false,if_true]
 have hc:¬(l.length+l'.length≤l.length):=by omega
 rw[if_neg hc]
 have c1:¬(((l.length+l'.length:Nat):Int)>IntKind.i64.max∧(false=true∨(by':Nat)=0)):=by omega
 have c2:¬Builtin.nextslicecap (l.length+l'.length) l.length*by'>2 ^ 48:=by
  have:=IV (show l.length<l.length+l'.length by omega)
  have:=Nat.mul_le_mul_right by' this
  omega
 simp only[dJ hj,hj2]
 have c1':¬(((l.length+l'.length:Nat):Int)>IntKind.i64.max):=by omega
 simp only[c1',false_and,if_false]
 rw[dJ hj,hj2,if_neg c2]
 intro n ⟨tp,hn⟩
 have hn':l.length+l'.length≤n:=by rw[hn];simp only[Question.cut];omega
 clear hn c2
 show tr P h (Sem.bind (typeInfo E) _) [] Q
 rw[dJ hj,hj2]
 
 have room:∀{β:Type} {f:Unit→Sem β} {Q':β→eG→Prop},tr P h (f ()) [] Q'→tr P h ((askRoom (n*by')).bind f) [] Q':=by
  intro β f Q' H
  unfold askRoom
  split
  ·exact⟨rfl,H⟩
  ·exact H
 refine room (bJ (DU hs (bJ (DU hx ?_))))
 simp only[fG,hj4,newRow,bind_eq,gq,bind_assoc,bind_pure]
 refine wI fun r _ _=>?_
 refine K _ _ (.inr ⟨r,_,n,[],by rw[List.length_append],rfl,?_,by rw[List.length_append];exact hn',?_,Shut.nil⟩)
 ·simp only[Array.size_append,List.size_toArray,jT,zn,hzc,←Nat.add_mul]
  congr 1;omega
 ·refine⟨[],(Builtin.zeroCells zc (n- (l.length+l'.length))).toList,?_,rfl⟩
  rw[zk]
  simp only[Array.toList_append,List.nil_append,List.append_assoc]

end
section rules
variable{x:Cx}{ρ:Env}{F:eG}{o:Oper}{R:Value→eG→Prop}{α:Type}{row:α→List Value}{w:Nat}[rw':Rw row w]
theorem aHY{t t' E E' by':Nat}{z:Value}{zc:Array Value}{y yx:Operand}{a:Option Addr}{xv:Value}{l l':List α}(ho:o.op= .call ⟨.builtin .append, #[y,yx], #[t,t']⟩)[TD x.P t (.slice E)][TD x.P t' (.slice E')][TI x.P E w by' z zc]
  (hy:ev ρ y=some (.slice a l.length l.length)) (hx:ev ρ yx=some xv) (hs:Sl x.h row (.slice a l.length l.length) l) (hsrc:∀h',Ext x.h h'→fF F h'→Sl h' row xv l') (hl:0<l'.length) (hb:(2*(l.length+l'.length)+768)*by'≤2 ^ 48) (hby:0<by') (hzc:zc.size=w)
  (K:∀v' A',Os E row v' (l++l') A'→R v' (A'++F)):Ef x ρ o F R:=fun e he=>
 ⟨[],F,.refl _,fun h' e1 e2=>by
  simp only[execOp,ho,resolve,invoke,builtin,List.map_toArray,List.map_cons,List.map_nil,he y _ hy,he yx _ hx,bind_eq,gq,bind_pure]
  exact bJ (aG5 hzc (hs.ext e1) (hsrc h' e1 e2) hl hb hby fun v' A' H=>⟨A'++F,.refl _,K v' A' H⟩)⟩
theorem aIL{S:eG→Prop}{t E s by' n:Nat}{z:Value}{zc:Array Value}{y hi mx:Operand}{a:Option Addr}{k k':IntKind}{cap:Nat}(ho:o.op= .slice t y none (some hi) (some mx))[TD x.P t (.slice E)][TI x.P E s by' z zc](hy:ev ρ y=some (.slice a n cap))(hn:n≤cap)(ha:n=0∨∃b off,a=some ⟨b,off,none⟩)(hh:ev ρ hi=some (.int k n))(hm:ev ρ mx=some (.int k' n)):Yv x S ρ o (.slice a n n):=fun e he F hF h' hE=>by
 have e1:(0:Int)≤n∧(n:Int)≤cap:=by omega
 have e2:(0:Int)≤n∧(n:Int)≤(n:Nat):=by omega
 simp only[execOp,ho,he y _ hy,he hi _ hh,he mx _ hm,Instr.sliceAt,Instr.slice,Instr.sliceBounds,Instr.sliceBound,asIntOf,bind_eq,gq,bind_assoc,bind_pure,Option.map_none,Option.map_some,aC,dH,if_pos e1,Int.toNat_natCast,if_pos e2,if_true,Nat.sub_zero]
 have e3:(if n=0 then a else Option.map (fun x=>x.add (0*s)) a)=a:=by
  rcases ha with h | ⟨b,off,rfl⟩
  ·rw[if_pos h]
  ·split
   ·rfl
   ·have ea:(⟨b,off,none⟩:Addr).add (0*s)=⟨b,off,none⟩:=by rw[jE rfl];simp
    exact congrArg some ea
 exact⟨congrArg (fun q=>Next.value (.slice q n n)) e3,rfl⟩
theorem aGg{S:eG→Prop}{t t' E:TypeId}{y:Operand}{a:Option Addr}{n c:Nat}(ho:o.op= .binOp .neq t y (.const (.slice none 0 0)) t')[TD x.P t (.slice E)](hy:ev ρ y=some (.slice a n c)):Yv x S ρ o (.bool (!a.isNone)):=fun e he F hF h' hE=>by
 have hc:e (.const (.slice none 0 0))= .slice none 0 0:=he _ _ rfl
 have hg:eqGuard .neq t y (.const (.slice none 0 0)) (.slice a n c) (.slice none 0 0)= .pure ():=by
  simp[eqGuard,gq]
 obtain⟨dd,hdd⟩:=CU t (.slice a n c) (.slice none 0 0)
 simp only[execOp,ho,he y _ hy,hc,hg,binOp,hdd,bind_eq,gq,bind_assoc,bind_pure,adz]
 exact⟨rfl,rfl⟩
theorem Sl.aKB{h:Hp}{a:Option Addr}{n cap:Nat}{l:List α}(H:Sl h row (.slice a n cap) l):n≤cap→Sl h row (.slice a n n) l:=by
 intro hn
 obtain⟨a',cap',e,h2⟩:=H
 cases e
 exact⟨a,_,rfl,h2⟩
end rules
end Go.aS

/- Operations that come up in any order and only add to what is owned. Conditions: none; over any program. -/
namespace Go.aS
abbrev Spc:=Nat×Nat×(Value→eG→Prop)
def waits(ops:Array Oper):Nat→Nat→Nat→Bool
 | 0,_,_=>false
 | n+1,k,b=>match ops[k]? with | some o=>o.after.any fun e=>iG e&&(Nat.beq e.on b|| waits ops n e.on b) | none=>false
structure Y4(ops:Array Oper)(listed:Nat)(B:List Nat):Prop where
 cl:Closed ops listed
 low:∀k o,ops[k]? =some o→∀e∈o.after,iG e=true→e.on<k
 or:∀k,k<ops.size→listed.testBit k=false→k∈B∨∀b∈B,waits ops 6 k b=true
 un:∀b∈B,b<ops.size∧listed.testBit b=false
 nd:B.Nodup

theorem Y4.some{ops:Array Oper}{listed:Nat}{B:List Nat}(h:Y4 ops listed B){b:Nat}(hb:b∈B):qx ops listed≠[]:=by
 have key:∀(n k:Nat),k<n→k<ops.size→listed.testBit k=false→∃i,Fq ops listed i=true:=by
  intro n
  induction n with
  | zero=>intro k hk;omega
  | succ n ih=>
   intro k hk hlt hl
   by_cases hr:Fq ops listed k=true
   ·exact⟨k,hr⟩
   ·simp only[Fq,Array.getElem?_eq_getElem hlt,hl,Bool.not_false,Bool.true_and,Array.all_eq_true_iff_forall_mem,Bool.or_eq_true,Bool.not_eq_true']at hr
    have:∃e∈(ops[k]).after,iG e=true∧listed.testBit e.on=false:=by
     refine Classical.byContradiction fun hn=>hr fun e he=>?_
     cases hbe:iG e with
     | false=>exact .inl rfl
     | true=>
      cases ht:listed.testBit e.on with
      | true=>exact .inr rfl
      | false=>exact absurd ⟨e,he,hbe,ht⟩ hn
    obtain⟨e,he,h1,h2⟩:=this
    have:=h.low k _ (Array.getElem?_eq_getElem hlt) e he h1
    exact ih e.on (by omega) (by omega) h2
 obtain⟨i,hi⟩:=key (b+1) b (by omega) (h.un b hb).1 (h.un b hb).2
 intro e
 have:=o8.2 hi
 rw[e]at this
 cases this

theorem Y4.step{ops:Array Oper}{listed j:Nat}{B1 B2:List Nat}(h:Y4 ops listed (B1++j::B2))(hj:Fq ops listed j=true):Y4 ops (listed||| 2 ^ j) (B1++B2):=by
 have hnd:j∉B1++B2:=by
  have:=(List.perm_middle (a:=j) (l₁:=B1) (l₂:=B2)).nodup_iff.1 h.nd
  exact(List.nodup_cons.1 this).1
 refine⟨h.cl.step hj,h.low,fun k hk hl=>?_,fun b hb=>?_,?_⟩
 ·rw[testBit_or,Bool.or_eq_false_iff]at hl
  have hne:j≠k:=by simpa using hl.2
  rcases h.or k hk hl.1 with h' | h'
  ·left
   rcases List.mem_append.1 h' with h' | h'
   ·exact List.mem_append_left _ h'
   ·rcases List.mem_cons.1 h' with h' | h'
    ·exact absurd h'.symm hne
    ·exact List.mem_append_right _ h'
  ·right
   intro b hb
   refine h' b ?_
   rcases List.mem_append.1 hb with hb | hb
   ·exact List.mem_append_left _ hb
   ·exact List.mem_append_right _ (List.mem_cons_of_mem _ hb)
 ·have hb':b∈B1++j::B2:=by
   rcases List.mem_append.1 hb with hb | hb
   ·exact List.mem_append_left _ hb
   ·exact List.mem_append_right _ (List.mem_cons_of_mem _ hb)
  refine⟨(h.un b hb').1,?_⟩
  rw[testBit_or,(h.un b hb').2,Bool.false_or,decide_eq_false_iff_not]
  rintro rfl
  exact hnd hb
 ·have:=(List.perm_middle (a:=j) (l₁:=B1) (l₂:=B2)).nodup_iff.1 h.nd
  exact(List.nodup_cons.1 this).2

def Adds(x:Cx)(ops:Array Oper)(ε:Ev)(s:Spc):Prop:=
 ∃o,ops[s.1]? =some o∧o.dst=some s.2.1∧d_ o.dst x.n=true∧(∀c,o.op≠ .defer c)∧o.guard=none∧∀e,Cons ε e→∀F,Dx x o e F fun v F'=>∃A Lp,Lp.Perm F'∧s.2.2 v A∧Lp=A++F

theorem Cons.back{ε:Ev}{d:Nat}{v:Value}{e:Operand→Value}(h:Cons (upd ε (some d) v) e)(hd:ε d=none):Cons ε e:=fun y u hy=>h y u (by
 cases y with
 | tmp t=>
  simp only[UK,upd]at hy⊢
  cases hb:Nat.beq t d with
  | true=>rw[Nat.eq_of_beq_eq_true hb,hd]at hy;cases hy
  | false=>exact hy
 | _=>exact hy)

section rules
variable{x:Cx}{Q:Post}{ρ:Env}{ds:List Deferred}{F:eG}{ops:Array Oper}{L:eG}{fuel listed:Nat}
theorem Adds.of{i d:Nat}{P:Value→eG→Prop}{op:Op}{ty:TypeId}{pos:String}{bK:Array Edge}(ho:cO ops.toList i=some ⟨some d,op,ty,pos,bK,none⟩)(hd:Nat.blt d x.n=true)(hn:QS op=true)(H:∀F,Ef x ρ ⟨some d,op,ty,pos,bK,none⟩ F fun v F'=>∃A,P v A∧F'=A++F):Adds x ops (look ρ) (i,d,P):=
 ⟨_,aU ho,rfl,hd,gI hn,rfl,fun e he F=>(H F e fun y v hy=>he y v (by rw[DC];exact hy)).mono fun v F' ⟨Lp,p,A,hv,e⟩=>⟨A,Lp,p,hv,e⟩⟩
theorem Adds.call{i d f:Nat}{P:Value→eG→Prop}{args:List Operand}{ts:Array TypeId}{vs:List Value}{ty:TypeId}{pos:String}{bK:Array Edge}(H:∀h',Ext x.h h'→dV x.P x.main f vs.toArray h' [] P)(ho:cO ops.toList i=some ⟨some d,.call ⟨.value (.func f),args.toArray,ts⟩,ty,pos,bK,none⟩:=by rfl)[FB x.P f](hv:evs ρ args=some vs:=by rfl)(hd:Nat.blt d x.n=true:=by rfl):Adds x ops (look ρ) (i,d,P):=
 .of ho hd rfl fun F=>lQ rfl hv (fun h' hE _=>H h' hE) fun v A' hv=>⟨A',hv,rfl⟩
end rules
end Go.aS
namespace Go.aS
section
variable{α:Type}{row:α→List Value}{w:Nat}[rw':Rw row w]
section
variable{x:Cx}{ρ:Env}{F:eG}{o:Oper}{R:Value→eG→Prop}
end
end
section
variable{x:Cx}{S:eG→Prop}{ρ:Env}{o:Oper}
end
end Go.aS
namespace Go.aS
section
variable{x:Cx}{Q:Post}{ρ:Env}{ds:List Deferred}{ops:Array Oper}{G:eG}{y₁ y₂ y₃ y₄ agp agq:Nat×Obj}{id n:Nat}
end
theorem agQ{α:Type}{l l':List α}(h:∀[DecidableEq α] (a:α),l.count a=l'.count a):l.Perm l':=by
 classical
 exact List.perm_iff_count.2 fun a=>h a
end Go.aS
namespace Go.aS
theorem Os.open{α:Type}{row:α→List Value}{w:Nat}[Rw row w]{E:TypeId}{a:Option Addr}{n cap:Nat}{l:List α}{A:eG}(h:Os E row (.slice a n cap) l A)(hne:0<l.length):∃β c J,a=some ⟨β,0,none⟩∧A=(β,.cells c E (0,0))::J∧n=l.length∧c.size=cap*w∧l.length≤cap∧Part c 0 (flat row l)∧Shut J:=by
 rcases h with⟨rfl,_,_⟩ | ⟨β,c,cp,J,hv,rfl,h1,h2,h3,h4⟩
 ·simp at hne
 ·injection hv with e1 e2 e3
  subst e1 e2 e3
  exact⟨β,c,J,rfl,rfl,rfl,h1,h2,h3,h4⟩
end Go.aS

/- Plans of times. Conditions: none; over the given program. -/
namespace Go.aS
set_option maxRecDepth 100000
set_option maxHeartbeats 1000000
theorem aHZ(main:Side)(h:Hp)(b7 b6 m m':Nat)(E6 E7:TypeId)(z7:Nat×Nat)(hb7:h b7=some (.cells #[B8 m] E7 z7)):Y8 prog main atL #[bI b7,bI b6] h [(b6,.cells #[B8 m'] E6 (0,0))] (fun A=>Sb [(b6,.cells #[B8 m] E6 (0,0))] A):=by
 refine Y8.aG aAF rfl (by show 2≤3;decide) [(0,bI b7),(1,bI b6)] ⟨rfl,rfl,trivial⟩ ?_
 refine W.region rfl ?_
 refine agX rfl ?_
 refine Ops.yG ?_
 refine Ops.nil ?_
 exact mg (vs:=[]) .refl

abbrev ax7:Value:=.slice none 0 0
abbrev plL(b6 b β m:Nat)(E6:TypeId)(w:Obj)(k:Obj):eG:=[(b6,.cells #[B8 m] E6 (0,0)),(b,w),(β,k)]
def GrP(B:Boi)(i:Nat)(lv:Value)(L:eG)(v:Value)(A:eG):Prop:=
 (v=ax7∧Sb L A)∨(i=B.ss.length∧v=lv∧Sb L A)∨(i<B.ss.length∧∃l' S,l'.length=B.ss.length∧Os dL fH v l' S∧(∀j,i≤j→j<B.ss.length→WR B j≠[])∧Sb (L++S) A)
def TrP(B:Boi)(i:Nat)(L:eG)(v:Value)(A:eG):Prop:=
 (v=ax7∧Sb L A)∨(∃l' S,l'.length=B.ss.length∧Os dL fH v l' S∧(∀j,i≤j→j<B.ss.length→WR B j≠[])∧Sb (L++S) A)
abbrev aHz(b2 b3 b6 b8:Nat):Value:=.func (.func awX) #[] #[bI b3,bI b2,bI b6,bI b8]
abbrev aKC(b6 b7:Nat):Value:=.func (.func axY) #[] #[bI b6,bI b7]

theorem aKD(main:Side)(B0:Boi)(ok:BOK B0)(b β b2 b3 b6 b7 b8:Nat)(w km:Obj)(E6 E7:TypeId)(z7:Nat×Nat)(i:Nat)(hi:i<B0.ss.length)(h:Hp)(hb7:h b7=some (.cells #[aHz b2 b3 b6 b8] E7 z7))
  (HG:∀h' lv' l' m',Ext h h'→l'.length=i+1→Sl h' fH lv' l'→(∃a c,lv'= .slice a (i+1) c∧i+1≤c)→m'<64→dV prog main awX #[lv',bI b3,bI b2,bI b6,bI b8] h' (plL b6 b β m' E6 w km) (GrP B0 (i+1) lv' (plL b6 b β m' E6 w km)))
  (lv:Value) (l:List Int) (hl:l.length=i) (hlv:Sl h fH lv l) (a0:Option Addr) (c0:Nat) (aIM:lv= .slice a0 i c0) (hic:i≤c0) (m t:Nat) (hm:m<64) (ht:t<6):
  dV prog main axY #[lv,I t,bI b6,bI b7] h (plL b6 b β m E6 w km) (TrP B0 (i+1) (plL b6 b β m E6 w km)):=by
 subst aIM
 have hs3:=ok.s2
 have hm2:m||| 2 ^ t<64:=Nat.or_lt_two_pow (n:=6) hm (Nat.pow_lt_pow_right (by decide) ht)
 have aMm:i=0∨∃b off,a0=some ⟨b,off,none⟩:=by
  rcases l with _ | ⟨y,l⟩
  ·exact .inl hl.symm
  ·obtain⟨a',cap',e,h2⟩:=hlv
   cases e
   obtain⟨b,off,c,E,fz,e2,-,-⟩:=h2 (by simp)
   exact .inr ⟨b,off,e2⟩
 have hln:=hlv.aKB hic
 subst hl
 refine dV.aG aBd rfl (by show 4≤24;decide) [(0,.slice a0 l.length c0),(1,I t),(2,bI b6),(3,bI b7)] ⟨rfl,rfl,rfl,rfl,trivial⟩ ?_
 refine W.seq<|W.region rfl<|agb rfl rfl rfl<|pq<|W.seq<|W.region rfl ?_
 refine agX rfl ?_
 refine Ops.new (fun Vo=>?_)
 refine Ops.yG ?_
 refine pq<|W.seq<|W.region rfl ?_
 refine agW (ayq rfl rfl rfl) rfl ?_
 refine Ops.defer (d:={target:=.fn (.func atL) #[bI Vo,bI b6],args:= #[]}) rfl (aU rfl) rfl wn rfl (fun e he=>?_) ?_
 ·have e3:e (.tmp 9)= .func (.func atL) #[] #[bI Vo,bI b6]:=he _ _ rfl
  simp[resolve,Deferred.ofValue,e3,gq]
 refine pq<|W.seq<|W.region rfl ?_
 refine agX rfl ?_
 refine qm rfl rfl rfl ?_
 refine cp (fun h' hE hL=>aGc _ h' m t hm ht) ?_
 refine Ops.yG ?_
 refine pq<|W.seq ?_
 refine W.DR [] (n:=12) rfl ?_
 refine dn 0 (iQ rfl rfl) rfl ?_
 refine dn 1 (aN rfl rfl) rfl ?_
 refine dn 2 (aN rfl rfl) rfl ?_
 refine dn 3 (dM rfl rfl) rfl ?_
 refine dn 4 (aN rfl rfl) rfl ?_
 refine dn 5 (dM rfl rfl) rfl ?_
 refine dn 6 (aIL rfl rfl hic aMm rfl rfl) rfl ?_
 refine dn 7 (aN rfl rfl) rfl ?_
 refine abl (i:=8) (cs:= #[I t]) (fun aqf=>?_) rfl
 refine ae (i:=9) rfl an rfl rfl (aHY (row:=fH) (w:=1) (l':=[(t:Int)]) rfl rfl rfl hln (fun h2 _ hl=>Sl.mk (hl aqf _ (.head _)) rfl (Part.all [I t])) (by simp) (by simp;omega) (by decide) rfl (fun v' S' Ie=>?_))
 refine⟨.inr Keeps.nil,?_⟩
 have hvc:∃a c,v'= .slice a (l.length+1) c∧l.length+1≤c:=by
  obtain⟨av,cv,hve⟩:=Ie.dA
  have hO2:=Ie
  rw[hve]at hO2
  obtain⟨_,_,_,_,_,_,_,h,_⟩:=hO2.open (by simp)
  exact⟨av,cv,by rw[hve];simp,by simpa using h⟩
 refine Any.sb (F':=(b6,.cells #[B8 (m||| 2 ^ t)] E6 (0,0))::(b,w)::(β,km)::(S'++[(Vo,.cells #[B8 m] MR (0,0))])) ?_ ?_
 ·exact Sb.trans (B:=(aqf,.cells #[I t] dL (0,0))::(b6,.cells #[B8 (m||| 2 ^ t)] E6 (0,0))::(b,w)::(β,km)::(S'++[(Vo,.cells #[B8 m] MR (0,0))])) (.skip rfl .refl) (.dF (show List.Perm _ (S'++((aqf,.cells #[I t] dL (0,0))::(Vo,.cells #[B8 m] MR (0,0))::(b6,.cells #[B8 (m||| 2 ^ t)] E6 (0,0))::(b,w)::[(β,km)]):eG)from agQ fun y=>by simp only[List.count_append,List.count_cons,List.count_nil];omega))
 refine ae (i:=10) rfl an rfl rfl (tJ (A:=plL b6 b β (m||| 2 ^ t) E6 w km) (args:=[_]) rfl rfl rfl .head (fun h' hE hL=>gZ.zh (fi:=[]) (args:=[_]) (ca:=[_,_,_,_]) (HG h' _ (l++[(t:Int)]) _ hE (by simp) (Ie.sl (fun q o hq=>hL q o (by simp[hq]))) hvc hm2)) (fun v A' hv=>?_))
 refine⟨.inr Keeps.nil,?_⟩
 obtain⟨S2,hsb,hS2,hfact⟩:∃S2,Sb (plL b6 b β (m||| 2 ^ t) E6 w km++S2) A'∧Shut S2∧(v=ax7∨(l.length+1=B0.ss.length∧v=v')∨(l.length+1<B0.ss.length∧∃l',l'.length=B0.ss.length∧Os dL fH v l' S2∧∀j,l.length+1≤j→j<B0.ss.length→WR B0 j≠[])):=by
  rcases hv with⟨rfl,hs⟩ | ⟨h1,rfl,hs⟩ | ⟨h1,l',S,h2,h3,h4,hs⟩
  ·exact⟨[],hs,.nil,.inl rfl⟩
  ·exact⟨[],hs,.nil,.inr (.inl ⟨h1,rfl⟩)⟩
  ·exact⟨S,hs,h3.shut,.inr (.inr ⟨h1,l',h2,h3,h4⟩)⟩
 refine Any.sb (F':=(b6,.cells #[B8 (m||| 2 ^ t)] E6 (0,0))::(b,w)::(β,km)::(Vo,.cells #[B8 m] MR (0,0))::(S2++S')) ?_ ?_
 ·exact Sb.trans (.dF (show List.Perm _ ((plL b6 b β (m||| 2 ^ t) E6 w km++S2)++(S'++[(Vo,.cells #[B8 m] MR (0,0))]):eG)from agQ fun y=>by simp only[plL,List.count_append,List.count_cons,List.count_nil];omega)) (hsb.app .refl)
 refine dn 11 (jS rfl rfl) rfl ?_
 refine az ?_
 refine aA<|W.ret ?_
 refine X6 (A:=[(b6,.cells #[B8 (m||| 2 ^ t)] E6 (0,0))]) .head (fun h' hE hL=>aHZ _ h' Vo b6 m _ E6 _ _ (hL Vo _ (.tail _ (.tail _ (.head _))))) (fun A2 hA2=>?_)
 have hbase:Sb (plL b6 b β m E6 w km++(S2++S')) (A2++((b,w)::(β,km)::(Vo,.cells #[B8 m] MR (0,0))::(S2++S'))):=
  Sb.trans (B:=((b6,.cells #[B8 m] E6 (0,0))::(b,w)::(β,km)::(Vo,.cells #[B8 m] MR (0,0))::(S2++S'):eG)) (show Sb ((b6,.cells #[B8 m] E6 (0,0))::(b,w)::(β,km)::(S2++S')) _ from .cons (.cons (.cons (.skip rfl .refl)))) (show Sb ([(b6,.cells #[B8 m] E6 (0,0))]++((b,w)::(β,km)::(Vo,.cells #[B8 m] MR (0,0))::(S2++S'))) _ from hA2.app .refl)
 have aLu:=Ie.shut
 rcases hfact with rfl | ⟨h1,rfl⟩ | ⟨h1,l',h2,h3,h4⟩
 ·refine mg (vs:=[ax7]) (.inl ⟨rfl,?_⟩)
  exact Sb.trans (Sb.right .refl (hS2.app aLu)) hbase
 ·refine mg (vs:=[v]) (.inr ⟨l++[(t:Int)],S',by simp;omega,Ie,fun j h5 h6=>by omega,?_⟩)
  exact Sb.trans (Sb.app .refl (Sb.left .refl hS2)) hbase
 ·refine mg (vs:=[v]) (.inr ⟨l',S2,h2,h3,h4,?_⟩)
  exact Sb.trans (Sb.app .refl (Sb.right .refl aLu)) hbase
end Go.aS

/- Plans of times: the search, Plan. Conditions: none; over the given program. -/
namespace Go.aS
set_option maxRecDepth 100000
set_option maxHeartbeats 1000000
theorem aJJ{B:Boi}{i k:Nat}(hk:k≤B.hs.length)(h:aAD B i k=true):WR B i≠[]:=by
 intro e
 have:(k:Int)∈WR B i:=List.mem_map.2 ⟨k,List.mem_filter.2 ⟨List.mem_range.2 (by omega),h⟩,rfl⟩
 rw[e]at this;cases this
theorem aIN(main:Side)(B0:Boi)(ok:BOK B0)(b β b2 b3 b6 b7 b8:Nat)(vs vr vm vh vp pv:Value)(E2 E3 E6 E7 E8:TypeId)(z2 z3 z7 z8:Nat×Nat):
  ∀(d i:Nat) (h:Hp) (lv:Value) (l:List Int) (m:Nat),i+d=B0.ss.length→aBp h vs vr vm vh vp B0→Sl h fH pv ((List.range B0.ss.length).map fun(i:Nat)=>(i:Int))→
   h b2=some (.cells #[bI b] E2 z2)→h b3=some (.cells #[pv] E3 z3)→h b7=some (.cells #[aHz b2 b3 b6 b8] E7 z7)→h b8=some (.cells #[aKC b6 b7] E8 z8)→l.length=i→Sl h fH lv l→(∃a c,lv= .slice a i c∧i≤c)→m<64→
   dV prog main awX #[lv,bI b3,bI b2,bI b6,bI b8] h (plL b6 b β m E6 (awQ vs vr vm vh vp β) (axd (WM B0))) (GrP B0 i lv (plL b6 b β m E6 (awQ vs vr vm vh vp β) (axd (WM B0)))):=by
 have hs2:=ok.s2
 have hh5:=ok.h2
 intro d
 induction d with
 | zero=>
  intro i h lv l m hid H hpv hb2 hb3 hb7 hb8 hl hlv ⟨a0,c0,aIM,hic⟩ hm
  subst aIM
  obtain⟨ap,cp0,rfl⟩:=hpv.dA
  have hpl:((List.range B0.ss.length).map fun(i:Nat)=>(i:Int)).length=B0.ss.length:=by simp
  rw[hpl]at hb3 hpv
  obtain rfl:i=B0.ss.length:=by omega
  refine dV.aG ay3 rfl (by show 5≤50;decide) [(0,.slice a0 B0.ss.length c0),(1,bI b3),(2,bI b2),(3,bI b6),(4,bI b8)] ⟨rfl,rfl,rfl,rfl,rfl,trivial⟩ ?_
  refine W.seq<|W.region rfl<|agb rfl rfl rfl<|pq<|W.seq<|W.seq<|W.region rfl<|qm rfl rfl rfl ?_
  refine agW (dM rfl rfl) rfl ?_
  refine agX rfl ?_
  refine agW (dM rfl rfl) rfl ?_
  refine agW (nD rfl rfl rfl) rfl ?_
  refine pq ?_
  refine W.bC rfl (fun c14=>?_) (fun c14=>?_)
  ·refine W.seq<|W.region rfl<|qm rfl rfl rfl<|agb rfl rfl rfl<|pq<|W.ret<|aY ?_
   refine mg (vs:=[_]) (.inr (.inl ⟨rfl,rfl,.refl⟩))
  ·exact absurd rfl ‹_›
 | succ d ih=>
  intro i h lv l m hid H hpv hb2 hb3 hb7 hb8 hl hlv ⟨a0,c0,aIM,hic⟩ hm
  subst aIM
  obtain⟨ap,cp0,rfl⟩:=hpv.dA
  have hpl:((List.range B0.ss.length).map fun(i:Nat)=>(i:Int)).length=B0.ss.length:=by simp
  obtain⟨bq,aJK,cq,Eq,fzq,e3,hbq,hxq,hyq,hzq⟩:=hpv.at (i:=i) (p:=(i:Int)) (by rw[List.getElem?_map,List.getElem?_range (by omega)];rfl)
  cases e3
  have aMo:=hb3
  have aMp:=hpv
  rw[hpl]at hb3 hpv
  have hxp:cq[aJK+i*1+0]? =some (I i):=hzq 0 (by decide)
  clear hxq hzq hyq
  obtain⟨a4,cap4,rfl⟩:=H.hm.dA
  refine dV.aG ay3 rfl (by show 5≤50;decide) [(0,.slice a0 i c0),(1,bI b3),(2,bI b2),(3,bI b6),(4,bI b8)] ⟨rfl,rfl,rfl,rfl,rfl,trivial⟩ ?_
  refine W.seq<|W.region rfl<|agb rfl rfl rfl<|pq<|W.seq<|W.seq<|W.region rfl<|qm rfl rfl rfl ?_
  refine agW (dM rfl rfl) rfl ?_
  refine agX rfl ?_
  refine agW (dM rfl rfl) rfl ?_
  refine agW (nD rfl rfl rfl) rfl ?_
  refine pq ?_
  refine W.bC rfl (fun c14=>?_) (fun c14=>?_)
  ·exfalso
   omega
  ·refine W.skip<|aA<|W.seq ?_
   refine W.DR [] (n:=8) rfl ?_
   refine dn 0 (iQ rfl rfl) rfl ?_
   refine dn 1 (iQ rfl rfl) rfl ?_
   refine dn 2 (aN rfl rfl) rfl ?_
   refine dn 3 (dM rfl rfl) rfl ?_
   first | refine dn 4 (G_ rfl rfl rfl) rfl ?_ | refine dn 4 (o_ rfl rfl rfl) rfl ?_
   refine dn 5 (iQ rfl rfl) rfl ?_
   refine ae (i:=6) rfl an rfl rfl (QZ (A:=[(b,_),(β,_)]) (args:=[_,_]) rfl rfl (.tail .head) (fun h' hE hL=>aFf _ h' b β vs vr vm _ vp B0 ok i (by omega) (H.ext hE)) (fun v A' hv=>?_))
   refine⟨.inr Keeps.nil,?_⟩
   obtain⟨rfl,hsb⟩:=hv
   refine Any.sb (.cons (hsb.app .refl)) ?_
   refine dn 7 (jS rfl rfl) rfl ?_
   refine az ?_
   refine aA<|W.seq<|W.seq<|W.region rfl ?_
   refine agX rfl ?_
   refine ag4 rfl ?_
   refine agY rfl ?_
   refine agY rfl ?_
   refine agX rfl ?_
   refine agW (dM rfl rfl) rfl ?_
   refine ag1 rfl ?_
   refine qm rfl rfl rfl<|pq<|W.block ?_
   refine W.loop (σ:=Nat) (fun k=>k≤B0.hs.length+1) (fun k=>[(30,I k),(29,I ((B0.hs.length:Int)+1)),(7,B8 (aAE B0 i (B0.hs.length+1))),(0,.slice a0 i c0),(1,bI b3),(2,bI b2),(3,bI b6),(4,bI b8)]) (fun _=>plL b6 b β m E6 (awQ vs vr vm (.slice a4 B0.hs.length cap4) vp β) (axd (WM B0))) (fun k=>B0.hs.length+1-k) 0 (Nat.zero_le _) ⟨rfl,rfl,rfl,rfl,rfl,rfl,rfl,rfl,trivial⟩ .refl ?_
   rintro k hk
   refine W.seq<|W.region rfl ?_
   refine agW (fO rfl rfl rfl) rfl ?_
   refine pq<|W.seq ?_
   refine W.bC rfl (fun c31=>?_) (fun c31=>?_)
   ·have hk6:k<6:=by omega
    have hbit:(aAE B0 i (B0.hs.length+1)).testBit k=aAD B0 i k:=by rw[aEa];simp;intro;omega
    refine W.skip<|aA<|W.seq<|W.block<|W.seq<|W.region rfl<|qm rfl rfl rfl<|agb rfl rfl rfl<|pq ?_
    refine W.seq<|W.seq<|W.region rfl<|qm rfl rfl rfl<|qm rfl rfl rfl ?_
    refine cp (u:=.bool (aAD B0 i k)) (fun h' hE hL=>hbit▸aFF _ h' _ k (Nat.lt_of_lt_of_le aD1 (Nat.pow_le_pow_right (by decide) (by omega:B0.hs.length+1≤6))) hk6) ?_
    refine agW (xU rfl rfl) rfl ?_
    refine qm rfl rfl rfl ?_
    refine Ops.RV (fun alJ=>?_) (fun alJ=>?_)
    ·refine Ops.no ?_
     refine Ops.no ?_
     refine Ops.no ?_
     refine agW (dG rfl rfl rfl) rfl ?_
     refine pq ?_
     refine W.dW ?_
     refine W.exit<|bP<|gG<|aA<|W.region rfl ?_
     refine ag1 rfl ?_
     refine qm rfl rfl rfl<|pq ?_
     exact⟨rfl,k+1,by omega,by omega,⟨lk rfl (show I _=I _ by congr 1),rfl,rfl,rfl,rfl,rfl,rfl,rfl,trivial⟩,.refl⟩
    ·refine oq (iQ rfl rfl) rfl (ak rfl rfl rfl) rfl rfl ?_
     refine oq (aN rfl rfl) rfl (ak rfl rfl rfl) rfl rfl ?_
     refine cp (fun h' hE hL=>aFF _ h' m k hm hk6) ?_
     refine agW (iH rfl rfl rfl) rfl ?_
     refine pq ?_
     refine W.cond rfl (fun c41=>?_) (fun c41=>?_)
     ·refine W.exit<|bP<|gG<|aA<|W.region rfl ?_
      refine ag1 rfl ?_
      refine qm rfl rfl rfl<|pq ?_
      exact⟨rfl,k+1,by omega,by omega,⟨lk rfl (show I _=I _ by congr 1),rfl,rfl,rfl,rfl,rfl,rfl,rfl,trivial⟩,.refl⟩
     ·refine W.skip<|aA<|W.seq<|W.region rfl ?_
      refine agX rfl ?_
      refine qm rfl rfl rfl<|qm rfl rfl rfl ?_
      have aLx:aAD B0 i k=true:=by first | assumption | (simp at*;done) | simp_all
      have hne:=aJJ (B:=B0) (i:=i) (k:=k) (by omega) aLx
      refine cgv .head (fun h2 hE hL=>gZ.zh (fi:=[]) (args:=[_,_]) (ca:=[_,_]) (aKD _ B0 ok b β b2 b3 b6 b7 b8 _ _ E6 E7 z7 i (by omega) h2 (hE.1 _ _ hb7) (fun h' lv' l' m' hE2 hl2 hs2 hvc hm2=>ih (i+1) h' lv' l' m' (by omega) (H.ext (hE.trans hE2)) (aMp.ext (hE.trans hE2)) ((hE.trans hE2).1 _ _ hb2) ((hE.trans hE2).1 _ _ aMo) ((hE.trans hE2).1 _ _ hb7) ((hE.trans hE2).1 _ _ hb8) hl2 hs2 hvc hm2) _ l hl (hlv.ext hE) a0 c0 rfl hic m k hm hk6)) (fun v A' hv=>?_)
      obtain⟨S2,a9,n9,c9,rfl,hsb,hS2,hfact⟩:∃S2 a9 n9 c9,v= .slice a9 n9 c9∧Sb (plL b6 b β m E6 (awQ vs vr vm (.slice a4 B0.hs.length cap4) vp β) (axd (WM B0))++S2) A'∧Shut S2∧((a9=none∧S2=[])∨(a9.isNone=false∧∃l',l'.length=B0.ss.length∧Os dL fH (.slice a9 n9 c9) l' S2∧∀j,i+1≤j→j<B0.ss.length→WR B0 j≠[])):=by
       rcases hv with⟨rfl,hs⟩ | ⟨l',S,h2,h3,h4,hs⟩
       ·exact⟨[],none,0,0,rfl,hs,.nil,.inl ⟨rfl,rfl⟩⟩
       ·obtain⟨a9,c9,rfl⟩:=h3.dA
        obtain⟨βo,co',Jo,hsa,-⟩:=h3.open (by omega)
        exact⟨S,a9,_,c9,rfl,hs,h3.shut,.inr ⟨by rw[hsa];rfl,l',h2,h3,h4⟩⟩
      refine Ops.sb (F':=plL b6 b β m E6 (awQ vs vr vm (.slice a4 B0.hs.length cap4) vp β) (axd (WM B0))++S2) (by rw[List.append_nil];exact hsb) ?_
      refine agb rfl rfl rfl<|pq<|W.seq<|W.region rfl<|qm rfl rfl rfl ?_
      refine agW (aGg rfl rfl) rfl ?_
      refine pq ?_
      refine W.cond rfl (fun c47=>?_) (fun c47=>?_)
      ·refine W.seq<|W.region rfl<|qm rfl rfl rfl<|agb rfl rfl rfl<|pq<|W.ret<|cZ<|aY<|aY ?_
       refine cZ<|aY ?_
       rcases hfact with⟨rfl,-⟩ | ⟨-,l',h2,h3,h4⟩
       ·exact absurd ‹(!(none:Option Addr).isNone)=true› (by decide)
       ·refine mg (vs:=[_]) (.inr (.inr ⟨by omega,l',S2,h2,h3,fun j h5 h6=>?_,.refl⟩))
        rcases Nat.eq_or_lt_of_le h5 with e | e
        ·subst e;exact hne
        ·exact h4 j e h6
      ·refine W.skip<|dI<|aA<|W.region rfl ?_
       refine ag1 rfl ?_
       refine qm rfl rfl rfl<|pq ?_
       exact⟨rfl,k+1,by omega,by omega,⟨lk rfl (show I _=I _ by congr 1),rfl,rfl,rfl,rfl,rfl,rfl,rfl,trivial⟩,.right .refl hS2⟩
   ·skip
    refine W.exit<|bP<|bP<|gG<|aA<|W.seq<|W.region rfl<|agb rfl rfl rfl<|pq ?_
    refine W.ret ?_
    exact mg (vs:=[ax7]) (.inl ⟨rfl,.refl⟩)
end Go.aS

/- Plan. Conditions: none; over the given program. -/
namespace Go.aS
set_option maxRecDepth 100000
set_option maxHeartbeats 1000000
theorem aJL(main:Side)(h:Hp)(B0:Boi)(ok:BOK B0)(b β:Nat)(vs vr vm vh vp pv:Value)(H:aBp h vs vr vm vh vp B0)(hpv:Sl h fH pv ((List.range B0.ss.length).map fun(i:Nat)=>(i:Int))):
  dV prog main az2 #[bI b,pv] h [(b,awQ vs vr vm vh vp β),(β,axd (WM B0))] (fun v A=>∃w r S,v= .tuple #[w,.bool r]∧Sb ([(b,awQ vs vr vm vh vp β),(β,axd (WM B0))]++S) A∧Shut S∧(r=true→∃l':List Int,l'.length=B0.ss.length∧Os dL fH w l' S∧∀j,j<B0.ss.length→WR B0 j≠[])):=by
 have hs1:=ok.s1
 obtain⟨ap,cp0,rfl⟩:=hpv.dA
 refine dV.aG aB_ rfl (by show 2≤18;decide) [(0,bI b),(1,.slice ap ((List.range B0.ss.length).map fun(i:Nat)=>(i:Int)).length cp0)] ⟨rfl,rfl,trivial⟩ ?_
 refine W.seq<|W.region rfl ?_
 refine Ops.box (fun yR=>?_)
 refine Ops.box (fun uU=>?_)
 refine agb rfl rfl rfl<|agb rfl rfl rfl<|pq<|W.seq<|W.region rfl ?_
 refine Ops.new (fun yC=>?_)
 refine pq<|W.seq<|W.region rfl ?_
 refine Ops.new (fun Vo=>?_)
 refine pq<|W.seq<|W.region rfl ?_
 refine agW (ayq rfl rfl rfl) rfl ?_
 refine Ops.new (fun yD=>?_)
 refine Ops.yG ?_
 refine pq<|W.seq<|W.region rfl ?_
 refine agW (ayq rfl rfl rfl) rfl ?_
 refine Ops.yG ?_
 refine pq<|W.seq<|W.region rfl ?_
 refine agX rfl ?_
 refine Ops.aeO (fun X5=>?_) rfl
 refine Ops.sb (F':=(yC,.cells #[B8 0] MR (0,0))::(b,awQ vs vr vm vh vp β)::(β,axd (WM B0))::[(yR,.cells #[bI b] awT (0,0)),(uU,.cells #[(.slice ap ((List.range B0.ss.length).map fun(i:Nat)=>(i:Int)).length cp0)] nS (0,0)),(Vo,.cells #[aHz yR uU yC yD] 111 (0,0)),(yD,.cells #[aKC yC Vo] 112 (0,0)),(X5,.cells #[] dL (0,0))]) (.dF (show List.Perm _ ((X5,.cells #[] dL (0,0))::(yD,.cells #[aKC yC Vo] 112 (0,0))::(Vo,.cells #[aHz yR uU yC yD] 111 (0,0))::(yC,.cells #[B8 0] MR (0,0))::(uU,.cells #[(.slice ap ((List.range B0.ss.length).map fun(i:Nat)=>(i:Int)).length cp0)] nS (0,0))::(yR,.cells #[bI b] awT (0,0))::(b,awQ vs vr vm vh vp β)::[(β,axd (WM B0))]:eG)from agQ fun y=>by simp only[List.count_cons,List.count_nil];omega)) ?_
 refine cgv (A:=plL yC b β 0 MR (awQ vs vr vm vh vp β) (axd (WM B0))) .head (fun h2 hE hL=>gZ.zh (fi:=[]) (args:=[_]) (ca:=[_,_,_,_]) (aIN _ B0 ok b β yR uU yC Vo yD vs vr vm vh vp _ _ _ MR _ _ _ _ _ _ B0.ss.length 0 h2 _ [] 0 (by omega) (H.ext hE) (hpv.ext hE) (hL yR _ (by repeat(first | exact List.Mem.head _ | apply List.Mem.tail))) (hL uU _ (by repeat(first | exact List.Mem.head _ | apply List.Mem.tail))) (hL Vo _ (by repeat(first | exact List.Mem.head _ | apply List.Mem.tail))) (hL yD _ (by repeat(first | exact List.Mem.head _ | apply List.Mem.tail))) rfl ⟨_,_,rfl,fun h=>absurd rfl h⟩ ⟨_,_,rfl,Nat.zero_le _⟩ (by decide))) (fun v A' hv=>?_)
 obtain⟨S2,a9,n9,c9,rfl,hsb,hS2,hfact⟩:∃S2 a9 n9 c9,v= .slice a9 n9 c9∧Sb (plL yC b β 0 MR (awQ vs vr vm vh vp β) (axd (WM B0))++S2) A'∧Shut S2∧(a9.isNone=false→∃l':List Int,l'.length=B0.ss.length∧Os dL fH (.slice a9 n9 c9) l' S2∧∀j,j<B0.ss.length→WR B0 j≠[]):=by
  rcases hv with⟨rfl,hs⟩ | ⟨h1,-,-⟩ | ⟨h1,l',S,h2,h3,h4,hs⟩
  ·exact⟨[],none,0,0,rfl,hs,.nil,fun h=>by cases h⟩
  ·omega
  ·obtain⟨a9,c9,rfl⟩:=h3.dA
   exact⟨S,a9,_,c9,rfl,hs,h3.shut,fun _=>⟨l',h2,h3,fun j hj=>h4 j (Nat.zero_le _) hj⟩⟩
 refine Ops.sb (F':=((b,awQ vs vr vm vh vp β)::(β,axd (WM B0))::S2)) ?_ ?_
 ·refine Sb.trans ?_ (Sb.right hsb (by repeat(first | exact Shut.nil | refine Shut.cons rfl ?_)))
  exact .skip rfl .refl
 refine agb rfl rfl rfl<|pq<|W.seq<|W.region rfl<|qm rfl rfl rfl<|qm rfl rfl rfl ?_
 refine agW (aGg rfl rfl) rfl ?_
 refine agb rfl rfl rfl<|agb rfl rfl rfl<|pq<|W.ret ?_
 exact mg (vs:=[.slice a9 n9 c9,.bool (!a9.isNone)]) ⟨_,_,S2,rfl,.refl,hS2,fun h=>hfact (by cases e:a9.isNone <;>simp[e]at h⊢)⟩

theorem aJM(main:Side)(h:Hp)(vs vr vm vh vp:Value)(B0:Boi)(ok:BOK B0)(hne:1≤(ayo B0).length)(H:aBp h vs vr vm vh vp B0):
  dV prog main aCr #[ax8 vs vr vm vh vp] h [] (fun v A=>∃w n S,v= .tuple #[w,I n]∧Sb S A∧Shut S∧(n=0∨n=11)∧(n=0→∃l':List Int,l'.length=B0.ss.length∧Os dL fH w l' S∧∀j,j<B0.ss.length→WR B0 j≠[])):=by
 have hs2:=ok.s2
 obtain⟨a1,cap1,hvs⟩:=H.sm.dA
 subst hvs
 refine dV.aG aEg rfl (by show 1≤28;decide) [(0,ax8 (.slice a1 B0.ss.length cap1) vr vm vh vp)] ⟨rfl,trivial⟩ ?_
 refine W.seq<|W.region rfl ?_
 refine Ops.box (fun β1=>?_)
 refine agb rfl rfl rfl<|agb rfl rfl rfl<|pq<|W.seq<|W.region rfl ?_
 first | refine ag2 rfl ?_ | refine agW (ady rfl rfl) rfl ?_
 refine c0 (fun h' hE hL=>aGb _ h' _ vr vm vh vp _ B0 [] ok hne (H.ext hE) .nil (by simp) (fun n hn=>by cases hn)) (fun v A' hv=>?_)
 obtain⟨b,β,rfl,hsb⟩:=hv
 refine Ops.sb (hsb.app .refl) ?_
 refine qm rfl rfl rfl<|oq (bD rfl rfl rfl) rfl wn rfl rfl<|oq (bD rfl rfl rfl) rfl wn rfl rfl<|agb rfl rfl rfl<|agb rfl rfl rfl<|pq<|W.seq<|W.seq<|W.region rfl ?_
 refine qm rfl rfl rfl ?_
 refine agW (nG rfl rfl rfl) rfl ?_
 refine pq ?_
 refine W.bC rfl (fun c14=>?_) (fun c14=>?_)
 ·refine W.seq<|W.region rfl<|qm rfl rfl rfl<|agb rfl rfl rfl<|agb rfl rfl rfl<|pq<|W.ret<|aY ?_
  exact absurd rfl ‹_›
 ·refine W.skip<|aA<|W.seq<|W.region rfl<|qm rfl rfl rfl ?_
  refine agY rfl ?_
  refine agX rfl ?_
  refine agW (dM rfl rfl) rfl ?_
  refine c0 (fun h' hE hL=>aJG _ h' B0.ss.length (by omega)) (fun v A' hu=>?_)
  obtain⟨au,cu,rfl⟩:=hu.dA
  refine Ops.sb (F':=(b,awQ (.slice a1 B0.ss.length cap1) vr vm vh vp β)::(β,axd (WM B0))::(A'++[(β1,.cells (Wv (.slice a1 B0.ss.length cap1) vr vm vh vp) MP (0,0))])) (.dF (show List.Perm _ (A'++((b,awQ (.slice a1 B0.ss.length cap1) vr vm vh vp β)::(β,axd (WM B0))::[(β1,.cells (Wv (.slice a1 B0.ss.length cap1) vr vm vh vp) MP (0,0))]):eG)from agQ fun y=>by simp only[List.count_append,List.count_cons,List.count_nil];omega)) ?_
  refine cg (A:=[(b,_),(β,_)]) .head (fun h' hE hL=>aJL _ h' B0 ok b β _ vr vm vh vp _ (H.ext hE) (hu.sl (fun q o hq=>hL q o (by simp[hq])))) (fun v A2 hv=>?_)
  obtain⟨w,r,S,rfl,Oh,hS,hres⟩:=hv
  have huS:=hu.shut
  refine Ops.sb (F':=S) ?_ ?_
  ·refine Sb.trans (B:=[(b,awQ (.slice a1 B0.ss.length cap1) vr vm vh vp β),(β,axd (WM B0))]++S) (.skip rfl (.skip rfl .refl)) ?_
   exact Sb.right Oh (huS.app (.cons rfl .nil))
  refine qm rfl rfl rfl<|oq (bD rfl rfl rfl) rfl wn rfl rfl<|oq (bD rfl rfl rfl) rfl wn rfl rfl<|agb rfl rfl rfl<|agb rfl rfl rfl<|pq<|W.seq<|W.seq<|W.region rfl ?_
  refine qm rfl rfl rfl ?_
  refine agW (xU rfl rfl) rfl ?_
  refine pq ?_
  refine W.cond rfl (fun c26=>?_) (fun c26=>?_)
  ·refine W.seq<|W.region rfl<|agb rfl rfl rfl<|agb rfl rfl rfl<|pq<|W.ret<|aY ?_
   exact mg (vs:=[.slice none 0 0,I 11]) ⟨_,_,S,rfl,.refl,hS,.inr rfl,fun h=>by cases h⟩
  ·refine W.skip<|aA<|W.seq<|W.region rfl<|qm rfl rfl rfl<|agb rfl rfl rfl<|agb rfl rfl rfl<|pq<|W.ret ?_
   exact mg (vs:=[w,I 0]) ⟨_,_,S,rfl,.refl,hS,.inl rfl,fun _=>hres (by first | assumption | (simp at*;assumption) | simp_all)⟩
end Go.aS

/- Floors out of a hat. Conditions: none; over the given program. -/
namespace Go.aS
set_option maxRecDepth 100000
set_option maxHeartbeats 4000000
theorem pa(c:Array Value)(l:List Int)(h:c=(flat fH l).toArray:=by rfl):Part c 0 (flat fH l):=by
 subst h;exact Part.all _
theorem aG6{f:Fl}(h1:1≤f.pl∧f.pl≤9)(h2:1≤f.lo∧f.lo≤6)(h3:f.lo≤f.hi∧f.hi≤6)(h4:0≤f.co∧f.co≤9):awO f=0:=by
 unfold awO
 rw[if_neg (by unfold outs;omega),if_neg (by omega),if_neg (by unfold outs;omega)]
theorem aG7(main:Side)(h:Hp)(nums:List Int)(lv:Value)(b k:Nat)(s:Int)(hl:Sl h fH lv nums)(hk:k<3000000000):dV prog main aCs #[.pointer (some ⟨b,0,none⟩)] h [(b,wF lv k s)] (fun v A=>∃f s',v=Fl.val f∧awO f=0∧Sb [(b,wF lv (k+6) s')] A):=by
 refine dV.aG aEh rfl (by show 1≤26;decide) [(0,.pointer (some ⟨b,0,none⟩))] ⟨rfl,trivial⟩ ?_
 refine W.seq<|W.region rfl ?_
 refine Ops.new (fun yR=>?_)
 refine pq<|W.seq<|W.region rfl<|qm rfl rfl rfl<|qm rfl rfl rfl ?_
 refine cg (A:=[(b,_)]) (.tail .head) (fun h' hE hL=>UD _ h' nums lv b k s 1 6 (hl.ext hE) (by omega) (by omega)) (fun v A' hv=>?_)
 obtain⟨r,s1,rfl,hr,hsb⟩:=hv
 refine Ops.sb (.cons (hsb.app .refl)) ?_
 refine Ops.NK (cs:= #[I 1,I 2,I 2,I 3,I r]) (fun Vo=>?_) rfl
 refine cg (A:=[(b,_)]) (.tail (.tail .head)) (fun h' hE hL=>YM _ h' nums lv b (k+1) s1 [1,2,2,3,r] _ (hl.ext hE) (Sl.mk (hL Vo _ (.head _)) rfl (pa _ _)) (by omega) (by simp) (by simp)) (fun v A' hv=>?_)
 obtain⟨lo,s2,rfl,hlo,hsb⟩:=hv
 refine Ops.sb (F':=[(yR,_),(b,_)]) (.skip rfl (.cons (hsb.app .refl))) ?_
 refine agb rfl rfl rfl<|pq<|W.seq<|W.region rfl<|qm rfl rfl rfl<|qm rfl rfl rfl ?_
 refine cg (A:=[(b,_)]) (.tail .head) (fun h' hE hL=>UD _ h' nums lv b (k+2) s2 1 9 (hl.ext hE) (by omega) (by omega)) (fun v A' hv=>?_)
 obtain⟨r2,s3,rfl,hr2,hsb⟩:=hv
 refine Ops.sb (.cons (hsb.app .refl)) ?_
 refine Ops.NK (cs:= #[I 2,I 3,I 4,I 5,I r2]) (fun Yf=>?_) rfl
 refine cg (A:=[(b,_)]) (.tail (.tail .head)) (fun h' hE hL=>YM _ h' nums lv b (k+3) s3 [2,3,4,5,r2] _ (hl.ext hE) (Sl.mk (hL Yf _ (.head _)) rfl (pa _ _)) (by omega) (by simp) (by simp)) (fun v A' hv=>?_)
 obtain⟨pl,s4,rfl,hpl,hsb⟩:=hv
 refine Ops.sb (F':=[(yR,_),(b,_)]) (.skip rfl (.cons (hsb.app .refl))) ?_
 refine qm rfl rfl rfl<|qm rfl rfl rfl<|qm rfl rfl rfl ?_
 refine Ops.NK (cs:= #[I 0,I 1,I 1,I 2]) (fun afC=>?_) rfl
 refine cg (A:=[(b,_)]) (.tail (.tail .head)) (fun h' hE hL=>YM _ h' nums lv b (k+4) s4 [0,1,1,2] _ (hl.ext hE) (Sl.mk (hL afC _ (.head _)) rfl (pa _ _)) (by omega) (by simp) (by simp)) (fun v A' hv=>?_)
 obtain⟨d,s5,rfl,hd,hsb⟩:=hv
 refine Ops.sb (F':=[(yR,_),(b,_)]) (.skip rfl (.cons (hsb.app .refl))) ?_
 have aNx:1≤lo∧lo≤6:=by simp at hlo;omega
 have hd2:0≤d∧d≤2:=by simp at hd;omega
 obtain⟨hi,hhi⟩:∃hi,min 6 (lo+d)=hi:=⟨_,rfl⟩
 refine ag1 rfl ?_
 refine agW ((Tm rfl rfl rfl).eq (u:=I hi) (congrArg I hhi)) rfl ?_
 refine agW (eH (cs:= #[I lo,I hi]) rfl rfl rfl) rfl ?_
 refine qm rfl rfl rfl ?_
 refine Ops.NK (cs:= #[I 0,I 1,I 2,I 3,I 9]) (fun alR=>?_) rfl
 refine cg (A:=[(b,_)]) (.tail (.tail .head)) (fun h' hE hL=>YM _ h' nums lv b (k+5) s5 [0,1,2,3,9] _ (hl.ext hE) (Sl.mk (hL alR _ (.head _)) rfl (pa _ _)) (by omega) (by simp) (by simp)) (fun v A' hv=>?_)
 obtain⟨co,s6,rfl,hco,hsb⟩:=hv
 refine Ops.sb (F':=[(yR,_),(b,_)]) (.skip rfl (.cons (hsb.app .refl))) ?_
 refine agW (eH (cs:= #[I pl,I lo,I hi,I co]) rfl rfl rfl) rfl ?_
 first | refine Ops.jP ?_ | refine Ops.nY ?_
 refine pq<|W.ret ?_
 refine QJ (hv:=D_ zJ) ⟨⟨pl,lo,hi,co⟩,s6,rfl,?_,.skip rfl .refl⟩
 simp at hpl hco
 exact aG6 (by simp only;omega) (by simp only;omega) (by simp only;omega) (by simp only;omega)
end Go.aS

/- Boils out of a hat. Conditions: none; over the given program. -/
namespace Go.aS
set_option maxRecDepth 100000
set_option maxHeartbeats 1000000
theorem aH1(main:Side)(h:Hp)(nums:List Int)(lv:Value)(b k:Nat)(s:Int)(hl:Sl h fH lv nums)(hk:k≤100000):dV prog main aC6 #[bI b,I 3,I 4] h [(b,wF lv k s)]
  (fun v A=>∃vs vr vm vh ss rs m1 m2 m3 hs Ss Sr Sm Sh k' s',v=ax8 vs vr vm vh (.slice none 0 0)∧Os ayj Spn.row vs ss Ss∧Os dL fH vr rs Sr∧Os dL fH vm [m1,m2,m3] Sm∧Os ayj Spn.row vh hs Sh∧BOK ⟨ss,rs,(m1,m2,m3),hs,[]⟩∧hs.length≤4∧k'≤k+100∧Sb ((b,wF lv k' s')::(Ss++(Sr++(Sm++Sh)))) A):=by
 refine dV.aG aES rfl (by show 3≤80;decide) [(0,bI b),(1,I 3),(2,I 4)] ⟨rfl,rfl,rfl,trivial⟩ ?_
 refine W.seq<|W.region rfl ?_
 refine Ops.new (fun yC=>?_)
 refine pq<|W.seq<|W.region rfl ?_
 refine Ops.new (fun Vo=>?_)
 refine pq<|W.seq<|W.seq<|W.region rfl<|qm rfl rfl rfl<|qm rfl rfl rfl ?_
 refine cg (A:=[(b,_)]) (.tail (.tail .head)) (fun h' hE hL=>UD _ h' nums lv b k s 1 3 (hl.ext hE) (by omega) (by omega)) (fun v A' hv=>?_)
 obtain⟨r,s1,rfl,hr,hsb⟩:=hv
 refine Ops.sb (.cons (.cons (hsb.app .refl))) ?_
 obtain⟨N,rfl⟩:∃N:Nat,r=N:=⟨r.toNat,by omega⟩
 refine agb rfl rfl rfl<|pq<|W.block ?_
 refine W.Js (σ:=Nat) (τ:=(List Spn×Value)×(List Int×Value)) (υ:=(Nat×Int)×(eG×eG)) (fun i t u=>i≤N∧t.1.1.length+i=N∧t.2.1.length+i=N∧((∀s∈t.1.1,0≤s.lo∧s.lo≤s.hi∧s.hi≤40)∧∀r∈t.2.1,1≤r∧r≤3)∧Os ayj Spn.row t.1.2 t.1.1 u.2.1∧Os dL fH t.2.2 t.2.1 u.2.2∧u.1.1+4*i≤k+1+4*N) (fun i _ _=>[(8,I i),(7,bI Vo),(6,bI yC),(0,bI b),(1,I 3),(2,I 4)])
  (fun _ t u=>(b,wF lv u.1.1 u.1.2)::(Vo,.cells (Wv t.1.2 t.2.2 (.slice none 0 0) (.slice none 0 0) (.slice none 0 0)) MP (0,0))::(yC,.cells (Wv (.slice none 0 0) (.slice none 0 0) (.slice none 0 0) (.slice none 0 0) (.slice none 0 0)) MP (0,0))::(u.2.1++u.2.2)) (fun i _ _=>i) N (([],.slice none 0 0),([],.slice none 0 0)) ((k+1,s1),([],[])) ⟨Nat.le_refl _,by simp,by simp,⟨(fun s hs=>by cases hs),fun r hr=>by cases hr⟩,.nil .nil,.nil .nil,by dsimp only;omega⟩ ⟨rfl,rfl,rfl,rfl,rfl,rfl,trivial⟩ (.dF (List.perm_append_comm (l₁:=[_]) (l₂:=[_,_]))) ?_
 rintro i ⟨⟨ls,vs⟩,lr,vr⟩ ⟨⟨k1,s2⟩,Ss,Sr⟩ ⟨hi,h1,h2,⟨hsp,hrp⟩,hS,hR,hk1⟩
 dsimp only at*
 obtain⟨va,vc,rfl⟩:=hS.dA
 obtain⟨ra,rc,rfl⟩:=hR.dA
 refine W.seq<|W.seq<|W.region rfl<|qm rfl rfl rfl ?_
 refine agW (rC rfl rfl rfl) rfl ?_
 refine pq ?_
 refine W.bC rfl (fun c17=>?_) (fun c17=>?_)
 ·have hi1:1≤i:=by omega
  refine W.skip<|aA<|W.seq<|W.block<|W.seq<|W.region rfl<|qm rfl rfl rfl ?_
  refine cg (A:=[(b,_)]) .head (fun h' hE hL=>UD _ h' nums lv b k1 s2 0 12 (hl.ext hE) (by omega) (by omega)) (fun v A' hv=>?_)
  obtain⟨n,s3,rfl,hn,hsb⟩:=hv
  refine Ops.sb (hsb.app .refl) ?_
  refine agb rfl rfl rfl<|pq<|W.seq ?_
  refine W.DR [(Vo,.cells (Wv (.slice va ls.length vc) (.slice ra lr.length rc) (.slice none 0 0) (.slice none 0 0) (.slice none 0 0)) MP (0,0))] (n:=13) rfl ?_
  refine dn 0 (ay rfl rfl) rfl ?_
  refine dn 1 (iQ rfl rfl) rfl ?_
  refine dn 2 (aN rfl rfl) rfl ?_
  refine dn 3 (aN rfl rfl) rfl ?_
  refine dn 4 (aN rfl rfl) rfl ?_
  refine ae (i:=5) rfl an rfl rfl (DN (parts:=[⟨_,_⟩,⟨_,_⟩,⟨_,_⟩,⟨_,_⟩]) (cs:= #[I 0,I 0,I 1,I 2]) rfl rfl (by decide) (by decide) (by kernel_rfl) fun arO _ _=>⟨.inr (Keeps.one (.tail _ (.tail _ (.head _))) Keeps.nil),?_⟩)
  refine ae (i:=6) rfl an rfl rfl (QZ (args:=[_,_]) rfl rfl (.tail .head) (fun h' hE hL=>YM _ h' nums lv b (k1+1) s3 [0,0,1,2] _ (hl.ext hE) (Sl.mk (hL arO _ (.head _)) rfl (Part.all [I 0,I 0,I 1,I 2])) (by omega) (by simp) (by simp)) (fun v A' hv=>?_))
  refine⟨.inr (Keeps.one (.tail _ (List.mem_append_right _ (.head _))) Keeps.nil),?_⟩
  obtain⟨d,s4,rfl,hd,hsb⟩:=hv
  have hd2:0≤d∧d≤2:=by
   simp only[List.mem_cons,List.not_mem_nil,or_false]at hd
   omega
  refine Any.sb (.cons (hsb.app .refl)) ?_
  first | refine dn 7 (Zi rfl rfl rfl) rfl ?_ | refine dn 7 (MZ rfl rfl rfl) rfl ?_
  refine dn 8 (eH rfl rfl rfl) rfl ?_
  refine ae (i:=9) rfl an rfl rfl (DN (parts:=[⟨_,_⟩]) (cs:= #[I n,I (n+d)]) rfl rfl (by decide) (by decide) (by kernel_rfl) fun az3 _ _=>⟨.inr (Keeps.one (.tail _ (.tail _ (.tail _ (.head _)))) Keeps.nil),?_⟩)
  refine ae (i:=10) rfl an rfl rfl (iW (row:=Spn.row) (l':=[⟨n,n+d⟩]) rfl rfl rfl hS (.tail (.tail (.app (.tail (.tail .head))))) (fun h2 _ hl=>Sl.mk (hl az3 _ (.head _)) rfl (Part.all (flat Spn.row [⟨n,n+d⟩]))) (by simp;omega) (by decide) rfl (fun v2 S2 hS2=>?_))
  refine⟨.inr (Keeps.one (.tail _ (.tail _ (.tail _ (.head _)))) Keeps.nil),?_⟩
  obtain⟨va2,vc2,rfl⟩:=hS2.dA
  refine dn 11 (ay rfl rfl) rfl ?_
  refine ae (i:=12) rfl an rfl rfl (eS rfl rfl rfl ?_)
  refine⟨.inl (by kernel_rfl),?_⟩
  refine az ?_
  refine aA ?_
  refine W.DR [(Vo,.cells (Wv (.slice va2 (ls++[(⟨n,n+d⟩:Spn)]).length vc2) (.slice ra lr.length rc) (.slice none 0 0) (.slice none 0 0) (.slice none 0 0)) MP (0,0))] (n:=11) rfl ?_
  refine dn 0 (ay rfl rfl) rfl ?_
  refine dn 1 (iQ rfl rfl) rfl ?_
  refine dn 2 (aN rfl rfl) rfl ?_
  refine dn 3 (aN rfl rfl) rfl ?_
  refine ae (i:=4) rfl an rfl rfl (QZ (args:=[_,_,_]) rfl rfl (.tail (.tail (.head (A:=[(b,_)])))) (fun h' hE hL=>UD _ h' nums lv b (k1+1+1) s4 1 3 (hl.ext hE) (by omega) (by omega)) (fun v A' hv=>?_))
  refine⟨.inr (Keeps.one (.tail _ (.tail _ (List.mem_append_right _ (.head _)))) Keeps.nil),?_⟩
  obtain⟨r3,s5,rfl,hr3,hsb⟩:=hv
  refine Any.sb (.cons (.cons (hsb.app .refl))) ?_
  refine ae (i:=5) rfl an rfl rfl (DN (parts:=[⟨_,_⟩,⟨_,_⟩,⟨_,_⟩,⟨_,_⟩]) (cs:= #[I 1,I 1,I 2,I r3]) rfl rfl (by decide) (by decide) (by kernel_rfl) fun aET _ _=>⟨.inr (Keeps.one (.tail _ (.tail _ (.tail _ (.tail _ (.head _))))) Keeps.nil),?_⟩)
  refine ae (i:=6) rfl an rfl rfl (QZ (args:=[_,_]) rfl rfl (.tail (.tail (.tail (.head (A:=[(b,_)]))))) (fun h' hE hL=>YM _ h' nums lv b (k1+1+1+1) s5 [1,1,2,r3] _ (hl.ext hE) (Sl.mk (hL aET _ (.head _)) rfl (Part.all [I 1,I 1,I 2,I r3])) (by omega) (by simp) (by simp)) (fun v A' hv=>?_))
  refine⟨.inr (Keeps.one (.tail _ (.tail _ (.tail _ (List.mem_append_right _ (.head _))))) Keeps.nil),?_⟩
  obtain⟨d2,s6,rfl,aMr,hsb⟩:=hv
  have aMs:1≤d2∧d2≤3:=by
   simp only[List.mem_cons,List.not_mem_nil,or_false]at aMr
   omega
  refine Any.sb (.cons (.cons (.cons (hsb.app .refl)))) ?_
  refine ae (i:=7) rfl an rfl rfl (DN (parts:=[⟨_,_⟩]) (cs:= #[I d2]) rfl rfl (by decide) (by decide) (by kernel_rfl) fun aMt _ _=>⟨.inr (Keeps.one (.tail _ (.tail _ (.tail _ (.tail _ (.tail _ (.head _)))))) Keeps.nil),?_⟩)
  refine ae (i:=8) rfl an rfl rfl (iW (row:=fH) (l':=[d2]) rfl rfl rfl hR (.tail (.tail (.tail (.tail (.app (.tail (.tail (.app .all)))))))) (fun h2 _ hl=>Sl.mk (hl aMt _ (.head _)) rfl (Part.all (flat fH [d2]))) (by simp;omega) (by decide) rfl (fun v3 R2 hR2=>?_))
  refine⟨.inr (Keeps.one (.tail _ (.tail _ (.tail _ (.tail _ (.tail _ (.head _)))))) Keeps.nil),?_⟩
  obtain⟨ra2,rc2,rfl⟩:=hR2.dA
  refine dn 9 (ay rfl rfl) rfl ?_
  refine ae (i:=10) rfl an rfl rfl (eS rfl rfl rfl ?_)
  refine⟨.inl (by kernel_rfl),?_⟩
  refine az ?_
  refine dI<|aA<|W.region rfl<|qm rfl rfl rfl ?_
  refine ag5 rfl ?_
  refine agb rfl rfl rfl<|pq ?_
  refine⟨rfl,i-1,((ls++[⟨n,n+d⟩],_),(lr++[d2],_)),((k1+1+1+1+1,s6),(S2,R2)),⟨by omega,by simp;omega,by simp;omega,⟨fun y hy=>?_,fun y hy=>?_⟩,hS2,hR2,by dsimp only;omega⟩,by omega,⟨lk rfl (show I _=I _ by congr 1;omega),rfl,rfl,rfl,rfl,rfl,trivial⟩,.skip rfl (.skip rfl (.skip rfl (.skip rfl .refl)))⟩
  ·rcases List.mem_append.1 hy with hy | hy
   ·exact hsp y hy
   ·rw[List.mem_singleton.1 hy];simp only;omega
  ·rcases List.mem_append.1 hy with hy | hy
   ·exact hrp y hy
   ·rw[List.mem_singleton.1 hy];exact aMs
 ·obtain rfl:i=0:=by omega
  refine W.exit<|bP<|bP<|gG<|aA<|W.seq<|W.region rfl<|qm rfl rfl rfl ?_
  refine cg (A:=[(b,_)]) .head (fun h' hE hL=>UD _ h' nums lv b k1 s2 1 9 (hl.ext hE) (by omega) (by omega)) (fun v A' hv=>?_)
  obtain⟨m1,s7,rfl,hm1,hsb⟩:=hv
  refine Ops.sb (hsb.app .refl) ?_
  refine agb rfl rfl rfl<|pq<|W.seq<|W.region rfl<|qm rfl rfl rfl<|qm rfl rfl rfl<|qm rfl rfl rfl ?_
  refine cg (A:=[(b,_)]) .head (fun h' hE hL=>UD _ h' nums lv b (k1+1) s7 1 4 (hl.ext hE) (by omega) (by omega)) (fun v A' hv=>?_)
  obtain⟨m2,s8,rfl,hm2,hsb⟩:=hv
  refine Ops.sb (hsb.app .refl) ?_
  refine ag1 rfl ?_
  refine qm rfl rfl rfl<|qm rfl rfl rfl ?_
  refine cg (A:=[(b,_)]) .head (fun h' hE hL=>UD _ h' nums lv b (k1+1+1) s8 5 11 (hl.ext hE) (by omega) (by omega)) (fun v A' hv=>?_)
  obtain⟨m3,s9,rfl,hm3,hsb⟩:=hv
  refine Ops.sb (hsb.app .refl) ?_
  refine ag1 rfl ?_
  refine Ops.NK (cs:= #[I m1,I (m1+m2),I (m1+m3)]) (fun ao3=>?_) rfl
  refine agY rfl ?_
  refine Ops.yG ?_
  refine pq<|W.seq<|W.seq<|W.region rfl<|qm rfl rfl rfl<|qm rfl rfl rfl ?_
  refine cg (A:=[(b,_)]) (.tail .head) (fun h' hE hL=>UD _ h' nums lv b (k1+1+1+1) s9 1 4 (hl.ext hE) (by omega) (by omega)) (fun v A' hv=>?_)
  obtain⟨tk,s10,rfl,htk,hsb⟩:=hv
  refine Ops.sb (.cons (hsb.app .refl)) ?_
  obtain⟨T,rfl⟩:∃T:Nat,tk=T:=⟨tk.toNat,by omega⟩
  refine agb rfl rfl rfl<|pq<|W.block ?_
  refine W.Js (σ:=Nat) (τ:=List Spn×Value) (υ:=(Nat×Int)×eG) (fun i t u=>i≤T∧t.1.length+i=T∧(∀s∈t.1,0≤s.lo∧s.lo≤s.hi∧s.hi≤4)∧Os ayj Spn.row t.2 t.1 u.2∧u.1.1+2*i≤k+60+2*T) (fun i _ _=>[(11,I i),(7,bI Vo),(6,bI yC),(0,bI b)])
   (fun _ t u=>(b,wF lv u.1.1 u.1.2)::(Vo,.cells (Wv (.slice va ls.length vc) (.slice ra lr.length rc) (.slice (some ⟨ao3,0,none⟩) 3 3) t.2 (.slice none 0 0)) MP (0,0))::(yC,.cells (Wv (.slice none 0 0) (.slice none 0 0) (.slice none 0 0) (.slice none 0 0) (.slice none 0 0)) MP (0,0))::(u.2++((ao3,.cells #[I m1,I (m1+m2),I (m1+m3)] dL (0,0))::(Ss++Sr)))) (fun i _ _=>i) T ([],.slice none 0 0) ((k1+1+1+1+1,s10),[]) ⟨Nat.le_refl _,by simp,(fun s hs=>by cases hs),.nil .nil,by dsimp only;omega⟩ ⟨rfl,rfl,rfl,rfl,trivial⟩ ?_ ?_
  ·exact .dF (List.perm_middle (l₁:=[_,_,_]))
  rintro i ⟨lh,vh⟩ ⟨⟨k2,s11⟩,Sh⟩ ⟨hi,hT,hhp,hH,hk2⟩
  dsimp only at*
  obtain⟨ha,hc,rfl⟩:=hH.dA
  refine W.seq<|W.seq<|W.region rfl<|qm rfl rfl rfl ?_
  refine agW (rC rfl rfl rfl) rfl ?_
  refine pq ?_
  refine W.bC rfl (fun c61=>?_) (fun c61=>?_)
  ·have hi1:1≤i:=by omega
   refine W.skip<|aA<|W.seq<|W.block<|W.seq<|W.region rfl<|qm rfl rfl rfl ?_
   refine cg (A:=[(b,_)]) .head (fun h' hE hL=>UC _ h' nums lv b k2 s11 4 (hl.ext hE) (by omega) (by omega)) (fun v A' hv=>?_)
   obtain⟨n,s12,rfl,hn,hsb⟩:=hv
   refine Ops.sb (hsb.app .refl) ?_
   refine agb rfl rfl rfl<|pq ?_
   refine W.DR [(Vo,.cells (Wv (.slice va ls.length vc) (.slice ra lr.length rc) (.slice (some ⟨ao3,0,none⟩) 3 3) (.slice ha lh.length hc) (.slice none 0 0)) MP (0,0))] (n:=14) rfl ?_
   refine dn 0 (ay rfl rfl) rfl ?_
   refine dn 1 (iQ rfl rfl) rfl ?_
   refine dn 2 (aN rfl rfl) rfl ?_
   refine dn 3 (aN rfl rfl) rfl ?_
   refine dn 4 (aN rfl rfl) rfl ?_
   refine ae (i:=5) rfl an rfl rfl (DN (parts:=[⟨_,_⟩,⟨_,_⟩,⟨_,_⟩,⟨_,_⟩]) (cs:= #[I 0,I 1,I 1,I 2]) rfl rfl (by decide) (by decide) (by kernel_rfl) fun aMu _ _=>⟨.inr (Keeps.one (.tail _ (.tail _ (.head _))) Keeps.nil),?_⟩)
   refine ae (i:=6) rfl an rfl rfl (QZ (args:=[_,_]) rfl rfl (.tail (.head (A:=[(b,_)]))) (fun h' hE hL=>YM _ h' nums lv b (k2+1) s12 [0,1,1,2] _ (hl.ext hE) (Sl.mk (hL aMu _ (.head _)) rfl (Part.all [I 0,I 1,I 1,I 2])) (by omega) (by simp) (by simp)) (fun v A' hv=>?_))
   refine⟨.inr (Keeps.one (.tail _ (List.mem_append_right _ (.head _))) Keeps.nil),?_⟩
   obtain⟨d,s13,rfl,hd,hsb⟩:=hv
   have hd2:0≤d∧d≤2:=by
    simp only[List.mem_cons,List.not_mem_nil,or_false]at hd
    omega
   refine Any.sb (.cons (hsb.app .refl)) ?_
   first | refine dn 7 (Zi rfl rfl rfl) rfl ?_ | refine dn 7 (MZ rfl rfl rfl) rfl ?_
   refine dn 8 (Tm rfl rfl rfl) rfl ?_
   refine dn 9 (eH rfl rfl rfl) rfl ?_
   refine ae (i:=10) rfl an rfl rfl (DN (parts:=[⟨_,_⟩]) (cs:= #[I n,I (min 4 (n+d))]) rfl rfl (by decide) (by decide) (by kernel_rfl) fun aMv _ _=>⟨.inr (Keeps.one (.tail _ (.tail _ (.tail _ (.head _)))) Keeps.nil),?_⟩)
   refine ae (i:=11) rfl an rfl rfl (iW (row:=Spn.row) (l':=[⟨n,min 4 (n+d)⟩]) rfl rfl rfl hH (.tail (.tail (.app (.tail (.tail .head))))) (fun h2 _ hl=>Sl.mk (hl aMv _ (.head _)) rfl (Part.all (flat Spn.row [⟨n,min 4 (n+d)⟩]))) (by simp;omega) (by decide) rfl (fun v2 S2 hS2=>?_))
   refine⟨.inr (Keeps.one (.tail _ (.tail _ (.tail _ (.head _)))) Keeps.nil),?_⟩
   obtain⟨va2,vc2,rfl⟩:=hS2.dA
   refine dn 12 (ay rfl rfl) rfl ?_
   refine ae (i:=13) rfl an rfl rfl (eS rfl rfl rfl ?_)
   refine⟨.inl (by kernel_rfl),?_⟩
   refine az ?_
   refine dI<|aA<|W.region rfl<|qm rfl rfl rfl ?_
   refine ag5 rfl ?_
   refine agb rfl rfl rfl<|pq ?_
   refine⟨rfl,i-1,(lh++[⟨n,min 4 (n+d)⟩],_),((k2+1+1,s13),S2),⟨by omega,by simp;omega,fun y hy=>?_,hS2,by dsimp only;omega⟩,by omega,⟨lk rfl (show I _=I _ by congr 1;omega),rfl,rfl,rfl,trivial⟩,.skip rfl (.skip rfl .refl)⟩
   rcases List.mem_append.1 hy with hy | hy
   ·exact hhp y hy
   ·rw[List.mem_singleton.1 hy];simp only;omega
  ·obtain rfl:i=0:=by omega
   refine W.exit<|bP<|bP<|gG<|aA<|W.seq<|W.region rfl ?_
   first | refine ag2 rfl ?_ | refine agW (ady rfl rfl) rfl ?_
   first | refine Ops.jP ?_ | refine Ops.nY ?_
   refine pq<|W.ret ?_
   refine QJ (hv:=D_ zJ) ⟨_,_,_,_,ls,lr,m1,m1+m2,m1+m3,lh,Ss,Sr,[(ao3,.cells #[I m1,I (m1+m2),I (m1+m3)] dL (0,0))],Sh,k2,s11,rfl,hS,hR,.inr ⟨ao3,_,3,[],rfl,rfl,rfl,Nat.le_refl _,Part.all (flat fH [m1,m1+m2,m1+m3]),.nil⟩,hH,⟨by simp only;omega,by simp only;omega,hsp,by simp only;omega,hrp,by simp only;omega,by simp only;omega,by simp only;omega,hhp,by simp,fun p hp=>by cases hp⟩,by omega,by omega,.cons (.skip rfl (.skip rfl (.dF ?_)))⟩
   rw[←List.append_assoc]
   exact(List.perm_middle (l₁:=Ss++Sr)).trans (List.perm_append_comm (l₁:=Sh) (l₂:=(ao3,_)::(Ss++Sr))).symm
end Go.aS
