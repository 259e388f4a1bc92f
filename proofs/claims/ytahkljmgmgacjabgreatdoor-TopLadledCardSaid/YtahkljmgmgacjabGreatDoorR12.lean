/- TopLadled. Conditions: none; over the given program. (And 1 texts more.) -/
import Derived.Test.YtahkljmgmgacjabGreatDoorR10
import Derived.Test.YtahkljmgmgacjabGreatDoorR11
import Derived.Test.YtahkljmgmgacjabGreatDoorR05
import Derived.Test.YtahkljmgmgacjabGreatDoorR08
import Derived.Test.YtahkljmgmgacjabGreatDoorCards
import Derived.Test.YtahkljmgmgacjabGreatDoorTie
import Derived.SevenTiedAt
set_option linter.unusedVariables false
set_option linter.unusedSimpArgs false
set_option linter.unusedSectionVars false

/- TopLadled. Conditions: none; over the given program. -/
namespace Go.aS
set_option maxRecDepth 100000
set_option maxHeartbeats 8000000
theorem aGm{f:Fl}{r:Int}(h:awO f=0)(hr:r=1∨r=2∨r=4):awO ⟨r,f.lo,f.hi,9⟩=0:=by
 unfold awO at h⊢
 split at h
 ·cases h
 ·split at h
  ·cases h
  ·rename_i h1 h2
   unfold outs at h1
   rw[if_neg (show¬(outs r 1 9∨outs f.lo 1 6∨outs f.hi 1 6) by unfold outs;omega),if_neg (show¬f.hi<f.lo from h2),if_neg (show¬outs 9 0 9 by unfold outs;omega)]
theorem aHB(l:List Be):∀k,0≤aB9 l k∧aB9 l k≤k
 | 0=>⟨Int.le_refl _,Int.le_refl _⟩
 | k+1=>by
  have:=aHB l k
  simp only[aB9,ay2]at this⊢
  split <;>omega
theorem aEU(main:Side)(hS:∀S,main.ok S→∃Fin,S=Mn prog Fin)(hmb:main.b=true)(h:Hp)(nums:List Int)(lv:Value)(Eg:TypeId)(zg:Nat×Nat)(hl:Sl h fH lv nums)(hg:h 0=some (.cells #[Ur qM] Eg zg))(z0:h.z 0):QE prog main Wn #[lv] h (.bool true):=by
 refine QE.aG Y0 rfl (by show 1≤229;decide) [(0,lv)] ⟨rfl,trivial⟩ ?_
 refine W.seq<|W.region rfl<|agb rfl rfl rfl<|pq<|W.seq<|W.region rfl<|qm rfl rfl rfl ?_
 refine c0 (fun h' hE hL=>VQ _ h' nums lv (hl.ext hE)) (fun v A' hv=>?_)
 obtain⟨b,s0,rfl,rfl⟩:=hv
 refine agb rfl rfl rfl<|pq<|W.seq<|W.region rfl<|qm rfl rfl rfl ?_
 refine cg (A:=[(b,_)]) .head (fun h' hE hL=>aGk _ h' nums lv b 0 s0 (hl.ext hE) (by omega)) (fun v A' hv=>?_)
 obtain⟨B,vs,vr,vm,vh,vp,vq,vw,ql,apU,Ss,Sr,Sm,Sh,Sp,Sq,Sw,k1,s1,rfl,ok,hh4,htr,hOs,hOr,hOm,hOh,hOp,hOq,hOw,hk1,hsb⟩:=hv
 have hs2:=ok.s2
 have hs1:=ok.s1
 obtain⟨asl,cs,rfl⟩:=hOs.dA
 obtain⟨ah,ch,rfl⟩:=hOh.dA
 have hz1:=hOq.shut
 have hz2:=hOw.shut
 obtain⟨ar,cr,rfl⟩:=hOr.dA
 obtain⟨am,cm,rfl⟩:=hOm.dA
 obtain⟨apf,cpf,rfl⟩:=hOp.dA
 refine Ops.sb (F':=(b,wF lv k1 s1)::(Sp++(Ss++(Sr++(Sm++Sh))))) ?_ ?_
 ·rw[List.append_nil]
  exact .trans (.cons (.app .refl (.app .refl (.app .refl (.app .refl (Sb.right .refl (hz1.app hz2))))))) hsb
 have hB:∀h':Hp,(∀q o,(q,o)∈(Sp++(Ss++(Sr++(Sm++Sh))))→h' q=some o)→aBp h' (.slice asl B.ss.length cs) (.slice ar B.rs.length cr) (.slice am [B.ms.1,B.ms.2.1,B.ms.2.2].length cm) (.slice ah B.hs.length ch) (.slice apf B.ps.length cpf) B:=fun h' hq=>⟨hOs.sl (fun q o hm=>hq q o (by simp[hm])),hOr.sl (fun q o hm=>hq q o (by simp[hm])),hOm.sl (fun q o hm=>hq q o (by simp[hm])),hOh.sl (fun q o hm=>hq q o (by simp[hm])),hOp.sl (fun q o hm=>hq q o (by simp[hm]))⟩
 have hGs:Shut (Sp++(Ss++(Sr++(Sm++Sh)))):=hOp.shut.app (hOs.shut.app (hOr.shut.app (hOm.shut.app hOh.shut)))
 generalize(Sp++(Ss++(Sr++(Sm++Sh))))=G at hB hGs⊢
 clear hsb hOs hOr hOm hOh hOp hOq hOw hz1 hz2
 refine qm rfl rfl rfl<|oq (bD rfl rfl rfl) rfl wn rfl rfl<|oq (bD rfl rfl rfl) rfl wn rfl rfl<|oq (bD rfl rfl rfl) rfl wn rfl rfl ?_
 refine Ops.new (fun wC=>?_)
 first | refine Ops.jP ?_ | refine Ops.nY ?_
 refine agb rfl rfl rfl<|agb rfl rfl rfl<|pq<|W.seq<|W.region rfl<|qm rfl rfl rfl ?_
 refine cg (A:=[(b,_)]) (.tail .head) (fun h' hE hL=>aG7 _ h' nums lv b k1 s1 (hl.ext hE) (by omega)) (fun v A' hv=>?_)
 obtain⟨f,s2,rfl,hcf,Oh⟩:=hv
 refine Ops.sb (.cons (Oh.app .refl)) ?_
 refine Ops.NK (cs:= #[I f.pl,I f.lo,I f.hi,I f.co]) (fun az3=>?_) rfl
 refine agW (eH rfl rfl rfl) rfl ?_
 refine Ops.new (fun Vo=>?_)
 first | refine Ops.jP ?_ | refine Ops.nY ?_
 refine pq<|W.seq ?_
 refine W.aG8 (n:=13) rfl ?_
 refine dn 0 (ay rfl rfl) rfl ?_
 refine dn 1 (iQ rfl rfl) rfl ?_
 refine dn 2 (ay rfl rfl) rfl ?_
 refine dn 3 (iQ rfl rfl) rfl ?_
 refine dn 4 (aN rfl rfl) rfl ?_
 refine abl (i:=5) (cs:= #[I 1,I 2,I 4]) (fun aiA=>?_) rfl
 refine ae (i:=6) rfl an rfl rfl (QZ (A:=[(b,_)]) (args:=[_,_]) rfl rfl (.tail (.tail (.tail (.tail .head)))) (fun h' hE hL=>YM _ h' nums lv b (k1+6) s2 [1,2,4] _ (hl.ext hE) (Sl.mk (hL aiA _ (.head _)) rfl (Part.all [I 1,I 2,I 4])) (by omega) (by decide) (by decide)) (fun v A' hv=>?_))
 refine⟨.inr (Keeps.one (.tail _ (.head _)) Keeps.nil),?_⟩
 obtain⟨r,s3,rfl,hr,hsb⟩:=hv
 refine Any.sb (.cons (.cons (.cons (.cons (hsb.app .refl))))) ?_
 have hr3:r=1∨r=2∨r=4:=by simpa using hr
 first | refine dn 7 (G_ rfl rfl rfl) rfl ?_ | refine dn 7 (o_ rfl rfl rfl) rfl ?_
 refine dn 8 (ay rfl rfl) rfl ?_
 refine ae (i:=9) rfl an rfl rfl (eS rfl rfl rfl ?_)
 refine⟨.inr (Keeps.one (.tail _ (.head _)) Keeps.nil),?_⟩
 first | refine dn 10 (G_ rfl rfl rfl) rfl ?_ | refine dn 10 (o_ rfl rfl rfl) rfl ?_
 refine dn 11 (ay rfl rfl) rfl ?_
 refine ae (i:=12) rfl an rfl rfl (eS rfl rfl rfl ?_)
 refine⟨.inl (by kernel_rfl),?_⟩
 refine az ?_
 refine aA<|W.seq<|W.region rfl<|agb rfl rfl rfl<|pq<|W.seq<|W.seq<|W.region rfl<|agb rfl rfl rfl ?_
 refine pq<|W.block ?_
 refine W.Js (σ:=Nat) (τ:=List St×Value×eG) (υ:=List (List Int)×List Sv×Value×eG×eG) (fun d t u=>d≤B.hs.length+1∧LdI B d 0 t.1 u.1∧Os az4 St.row t.2.1 t.1 t.2.2∧Os nS ags u.2.2.1 u.2.1 u.2.2.2.1∧UG dL fH u.2.1 u.1 u.2.2.2.2) (fun d t u=>[(9,I d),(8,u.2.2.1),(7,bI Vo),(4,bI wC)])
  (fun d t u=>(Vo,.cells #[(.slice (some ⟨az3,0,none⟩) 1 1),t.2.1] ayn (0,0))::(az3,.cells #[I r,I f.lo,I f.hi,I 9] ayG (0,0))::(wC,.cells (Wv (.slice asl B.ss.length cs) (.slice ar B.rs.length cr) (.slice am [B.ms.1,B.ms.2.1,B.ms.2.2].length cm) (.slice ah B.hs.length ch) (.slice apf B.ps.length cpf)) MP (0,0))::(t.2.2++(u.2.2.2.1++(u.2.2.2.2++G)))) (fun d _ _=>B.hs.length+1-d) 0 ([],.slice none 0 0,[]) ([],[],.slice none 0 0,[],[]) ⟨Nat.zero_le _,.nil,.nil .nil,.nil .nil,.nil⟩ ⟨rfl,rfl,rfl,rfl,trivial⟩ (.skip rfl (.cons (.cons (.cons (.skip rfl .refl))))) ?_
 rintro d ⟨ss,vst,SS⟩ ⟨ts,us,vt,ST,SO⟩ ⟨hd,hI,aEm,hOt,hOo⟩
 dsimp only at hI aEm hOt hOo⊢
 obtain⟨apt,cp_,rfl⟩:=aEm.dA
 obtain⟨at_,ct,rfl⟩:=hOt.dA
 refine W.seq<|W.seq<|W.region rfl<|qm rfl rfl rfl ?_
 refine agY rfl ?_
 refine agX rfl ?_
 refine agW (dM rfl rfl) rfl ?_
 refine agW (Lr rfl rfl rfl) rfl ?_
 refine pq ?_
 refine W.bC rfl (fun c48=>?_) (fun c48=>?_)
 ·refine W.skip<|aA<|W.seq<|W.block<|W.seq<|W.region rfl<|agb rfl rfl rfl<|pq<|W.block ?_
  refine W.Js (σ:=Nat) (τ:=List St×Value×eG) (υ:=List (List Int)×List Sv×Value×eG×eG) (fun q t u=>q≤B.ss.length∧LdI B d q t.1 u.1∧Os az4 St.row t.2.1 t.1 t.2.2∧Os nS ags u.2.2.1 u.2.1 u.2.2.2.1∧UG dL fH u.2.1 u.1 u.2.2.2.2) (fun q t u=>[(10,I q),(9,I d),(8,u.2.2.1),(7,bI Vo),(4,bI wC)])
   (fun q t u=>(Vo,.cells #[(.slice (some ⟨az3,0,none⟩) 1 1),t.2.1] ayn (0,0))::(az3,.cells #[I r,I f.lo,I f.hi,I 9] ayG (0,0))::(wC,.cells (Wv (.slice asl B.ss.length cs) (.slice ar B.rs.length cr) (.slice am [B.ms.1,B.ms.2.1,B.ms.2.2].length cm) (.slice ah B.hs.length ch) (.slice apf B.ps.length cpf)) MP (0,0))::(t.2.2++(u.2.2.2.1++(u.2.2.2.2++G)))) (fun q _ _=>B.ss.length-q) 0 (ss,.slice apt ss.length cp_,SS) (ts,us,.slice at_ us.length ct,ST,SO) ⟨Nat.zero_le _,hI,aEm,hOt,hOo⟩ ⟨rfl,rfl,rfl,rfl,rfl,trivial⟩ .refl ?_
  clear hI aEm hOt hOo apt cp_ at_ ct ss SS ts us ST SO
  rintro q ⟨ss,vst,SS⟩ ⟨ts,us,vt,ST,SO⟩ ⟨hq,hI,aEm,hOt,hOo⟩
  dsimp only at hI aEm hOt hOo⊢
  obtain⟨apt,cp_,rfl⟩:=aEm.dA
  obtain⟨at_,ct,rfl⟩:=hOt.dA
  have hss:ss.length≤3:=by rw[hI.cnt];exact Nat.le_trans (aJI hq) hs2
  have htl:=hI.len
  have hul:=hOo.len
  refine W.seq<|W.seq<|W.region rfl<|qm rfl rfl rfl ?_
  refine agY rfl ?_
  refine agX rfl ?_
  refine agW (dM rfl rfl) rfl ?_
  refine agW (fO rfl rfl rfl) rfl ?_
  refine pq ?_
  refine W.bC rfl (fun c55=>?_) (fun c55=>?_)
  ·refine W.skip<|aA<|W.seq<|W.block<|W.seq<|W.region rfl ?_
   first | refine ag2 rfl ?_ | refine agW (ady rfl rfl) rfl ?_
   refine qm rfl rfl rfl ?_
   have hqP:q<B.ss.length:=by omega
   have hsl:=aHy (B:=B) (Jq:=q)
   refine c0 (fun h' hE hL=>aFi _ h' _ _ _ _ _ B ok htr q hqP (hB h' (fun y o hy=>hL y o (by simp[hy])))) (fun v A' hv=>?_)
   obtain⟨w,S,hv0,hOw,hsb⟩:=hv
   generalize hn:(if WR B q=[]then(11:Int)else 0)=n at hv0
   subst hv0
   have hn':n=11∧(WR B q).length=0∨n=0∧0<(WR B q).length:=by
    by_cases e:WR B q=[]
    ·rw[if_pos e]at hn;exact .inl ⟨hn.symm,by rw[e];rfl⟩
    ·rw[if_neg e]at hn;exact .inr ⟨hn.symm,List.length_pos_iff.2 e⟩
   clear hn
   obtain⟨aw,cw,rfl⟩:=hOw.dA
   refine Ops.sb (F':=(Vo,.cells #[(.slice (some ⟨az3,0,none⟩) 1 1),(.slice apt ss.length cp_)] ayn (0,0))::(az3,.cells #[I r,I f.lo,I f.hi,I 9] ayG (0,0))::(wC,.cells (Wv (.slice asl B.ss.length cs) (.slice ar B.rs.length cr) (.slice am [B.ms.1,B.ms.2.1,B.ms.2.2].length cm) (.slice ah B.hs.length ch) (.slice apf B.ps.length cpf)) MP (0,0))::(S++(SS++(ST++(SO++G))))) (.trans (.dF (show List.Perm _ (S++((Vo,.cells #[(.slice (some ⟨az3,0,none⟩) 1 1),(.slice apt ss.length cp_)] ayn (0,0))::(az3,.cells #[I r,I f.lo,I f.hi,I 9] ayG (0,0))::(wC,.cells (Wv (.slice asl B.ss.length cs) (.slice ar B.rs.length cr) (.slice am [B.ms.1,B.ms.2.1,B.ms.2.2].length cm) (.slice ah B.hs.length ch) (.slice apf B.ps.length cpf)) MP (0,0))::(SS++(ST++(SO++G)))):eG)from(agQ fun y=>by simp only[List.count_append,List.count_cons,List.count_nil];omega))) (hsb.app .refl)) ?_
   refine qm rfl rfl rfl<|oq (bD rfl rfl rfl) rfl wn rfl rfl<|oq (bD rfl rfl rfl) rfl wn rfl rfl<|agb rfl rfl rfl<|agb rfl rfl rfl<|pq<|W.seq<|W.seq ?_
   refine W.aiB (σ:=Bool) (fun b=>b=false) (fun b=>[(87,.bool b),(12,I n),(11,.slice aw (WR B q).length cw),(10,I q),(9,I d),(8,.slice at_ us.length ct),(7,bI Vo),(4,bI wC)]) (fun _=>(Vo,.cells #[(.slice (some ⟨az3,0,none⟩) 1 1),(.slice apt ss.length cp_)] ayn (0,0))::(az3,.cells #[I r,I f.lo,I f.hi,I 9] ayG (0,0))::(wC,.cells (Wv (.slice asl B.ss.length cs) (.slice ar B.rs.length cr) (.slice am [B.ms.1,B.ms.2.1,B.ms.2.2].length cm) (.slice ah B.hs.length ch) (.slice apf B.ps.length cpf)) MP (0,0))::(S++(SS++(ST++(SO++G))))) ?_ ?_
   ·refine W.region rfl<|qm rfl rfl rfl ?_
    refine agW (nG rfl rfl rfl) rfl ?_
    refine qm rfl rfl rfl ?_
    refine Ops.ask (fun agN=>?_) (fun agN=>?_)
    ·refine oq (aN rfl rfl) rfl (ak rfl rfl rfl) rfl rfl ?_
     refine oq (nG rfl rfl rfl) rfl (ak rfl rfl rfl) rfl rfl ?_
     refine agW (dG rfl rfl rfl) rfl ?_
     refine qm rfl rfl rfl ?_
     refine Ops.ask (fun aLD=>?_) (fun aLD=>?_)
     ·refine Ops.no ?_
      refine Ops.no ?_
      refine Ops.no ?_
      refine Ops.noU ?_
      refine Ops.noU ?_
      refine Ops.noU ?_
      refine Ops.noU ?_
      refine Ops.noU ?_
      refine Ops.noU ?_
      refine Ops.noU ?_
      refine Ops.noU ?_
      refine Ops.noU ?_
      refine Ops.noU ?_
      refine Ops.noU ?_
      refine Ops.noU ?_
      refine Ops.no ?_
      refine agW (dG rfl rfl rfl) rfl ?_
      refine Ops.nil ?_
      refine⟨rfl,rfl,_,?_,⟨rfl,rfl,rfl,rfl,rfl,rfl,rfl,rfl,trivial⟩,.refl⟩
      first | rfl | exact decide_eq_false (by omega) | (exfalso;omega)
     ·refine oq (aN rfl rfl) rfl (ak rfl rfl rfl) rfl rfl ?_
      refine oq (nD rfl rfl rfl) rfl (ak rfl rfl rfl) rfl rfl ?_
      refine oq (aN rfl rfl) rfl (ak rfl rfl rfl) rfl rfl ?_
      refine Ops.ask (fun aHb=>?_) (fun aHb=>?_)
      ·refine oq (aN rfl rfl) rfl (ak rfl rfl rfl) rfl rfl ?_
       refine oq (dM rfl rfl) rfl (ak rfl rfl rfl) rfl rfl ?_
       refine oq (nD rfl rfl rfl) rfl (ak rfl rfl rfl) rfl rfl ?_
       refine oq (aN rfl rfl) rfl (ak rfl rfl rfl) rfl rfl ?_
       refine Ops.ask (fun ay7=>?_) (fun ay7=>?_)
       ·refine Ops.no ?_
        refine Ops.no ?_
        refine Ops.no ?_
        refine Ops.no ?_
        refine Ops.no ?_
        refine Ops.no ?_
        refine Ops.no ?_
        refine oq (dG rfl rfl rfl) rfl (ak rfl rfl rfl) rfl rfl ?_
        refine oq (dG rfl rfl rfl) rfl (ak rfl rfl rfl) rfl rfl ?_
        refine agW (iH rfl rfl rfl) rfl ?_
        refine Ops.nil ?_
        refine⟨rfl,rfl,_,?_,⟨rfl,rfl,rfl,rfl,rfl,rfl,rfl,rfl,trivial⟩,.refl⟩
        first | rfl | exact decide_eq_false (by omega) | (exfalso;omega)
       ·refine oq (aN rfl rfl) rfl (ak rfl rfl rfl) rfl rfl ?_
        refine oq (dM rfl rfl) rfl (ak rfl rfl rfl) rfl rfl ?_
        refine oq (ay rfl rfl) rfl (ak rfl rfl rfl) rfl rfl ?_
        refine oq (iQ rfl rfl) rfl (ak rfl rfl rfl) rfl rfl ?_
        refine oq (dM rfl rfl) rfl (ak rfl rfl rfl) rfl rfl ?_
        first | refine oq (Zi rfl rfl rfl) rfl (ak rfl rfl rfl) rfl rfl ?_ | refine oq (MZ rfl rfl rfl) rfl (ak rfl rfl rfl) rfl rfl ?_
        refine oq (rC rfl rfl rfl) rfl (ak rfl rfl rfl) rfl rfl ?_
        refine oq (iH rfl rfl rfl) rfl (ak rfl rfl rfl) rfl rfl ?_
        refine oq (dG rfl rfl rfl) rfl (ak rfl rfl rfl) rfl rfl ?_
        refine agW (iH rfl rfl rfl) rfl ?_
        refine Ops.nil ?_
        refine⟨rfl,rfl,_,?_,⟨rfl,rfl,rfl,rfl,rfl,rfl,rfl,rfl,trivial⟩,.refl⟩
        first | rfl | exact decide_eq_false (by omega) | (exfalso;omega)
      ·refine Ops.no ?_
       refine Ops.no ?_
       refine Ops.no ?_
       refine Ops.no ?_
       refine Ops.noU ?_
       refine Ops.noU ?_
       refine Ops.noU ?_
       refine Ops.noU ?_
       refine Ops.noU ?_
       refine Ops.noU ?_
       refine Ops.noU ?_
       refine Ops.no ?_
       refine oq (iH rfl rfl rfl) rfl (ak rfl rfl rfl) rfl rfl ?_
       refine agW (iH rfl rfl rfl) rfl ?_
       refine Ops.nil ?_
       refine⟨rfl,rfl,_,?_,⟨rfl,rfl,rfl,rfl,rfl,rfl,rfl,rfl,trivial⟩,.refl⟩
       first | rfl | exact decide_eq_false (by omega) | (exfalso;omega)
    ·refine Ops.no ?_
     refine Ops.no ?_
     refine agW (iH rfl rfl rfl) rfl ?_
     refine qm rfl rfl rfl ?_
     refine oq (aN rfl rfl) rfl (ak rfl rfl rfl) rfl rfl ?_
     refine oq (nD rfl rfl rfl) rfl (ak rfl rfl rfl) rfl rfl ?_
     refine oq (aN rfl rfl) rfl (ak rfl rfl rfl) rfl rfl ?_
     refine Ops.ask (fun aHb=>?_) (fun aHb=>?_)
     ·refine oq (aN rfl rfl) rfl (ak rfl rfl rfl) rfl rfl ?_
      refine oq (dM rfl rfl) rfl (ak rfl rfl rfl) rfl rfl ?_
      refine oq (nD rfl rfl rfl) rfl (ak rfl rfl rfl) rfl rfl ?_
      refine oq (aN rfl rfl) rfl (ak rfl rfl rfl) rfl rfl ?_
      refine Ops.ask (fun ay7=>?_) (fun ay7=>?_)
      ·refine Ops.no ?_
       refine Ops.no ?_
       refine Ops.no ?_
       refine Ops.no ?_
       refine Ops.no ?_
       refine Ops.no ?_
       refine Ops.no ?_
       refine oq (dG rfl rfl rfl) rfl (ak rfl rfl rfl) rfl rfl ?_
       refine oq (dG rfl rfl rfl) rfl (ak rfl rfl rfl) rfl rfl ?_
       refine agW (iH rfl rfl rfl) rfl ?_
       refine Ops.nil ?_
       refine⟨rfl,rfl,_,?_,⟨rfl,rfl,rfl,rfl,rfl,rfl,rfl,rfl,trivial⟩,.refl⟩
       first | rfl | exact decide_eq_false (by omega) | (exfalso;omega)
      ·refine oq (aN rfl rfl) rfl (ak rfl rfl rfl) rfl rfl ?_
       refine oq (dM rfl rfl) rfl (ak rfl rfl rfl) rfl rfl ?_
       refine oq (ay rfl rfl) rfl (ak rfl rfl rfl) rfl rfl ?_
       refine oq (iQ rfl rfl) rfl (ak rfl rfl rfl) rfl rfl ?_
       refine oq (dM rfl rfl) rfl (ak rfl rfl rfl) rfl rfl ?_
       first | refine oq (Zi rfl rfl rfl) rfl (ak rfl rfl rfl) rfl rfl ?_ | refine oq (MZ rfl rfl rfl) rfl (ak rfl rfl rfl) rfl rfl ?_
       refine oq (rC rfl rfl rfl) rfl (ak rfl rfl rfl) rfl rfl ?_
       refine oq (iH rfl rfl rfl) rfl (ak rfl rfl rfl) rfl rfl ?_
       refine oq (dG rfl rfl rfl) rfl (ak rfl rfl rfl) rfl rfl ?_
       refine agW (iH rfl rfl rfl) rfl ?_
       refine Ops.nil ?_
       refine⟨rfl,rfl,_,?_,⟨rfl,rfl,rfl,rfl,rfl,rfl,rfl,rfl,trivial⟩,.refl⟩
       first | rfl | exact decide_eq_false (by omega) | (exfalso;omega)
     ·refine Ops.no ?_
      refine Ops.no ?_
      refine Ops.no ?_
      refine Ops.no ?_
      refine Ops.noU ?_
      refine Ops.noU ?_
      refine Ops.noU ?_
      refine Ops.noU ?_
      refine Ops.noU ?_
      refine Ops.noU ?_
      refine Ops.noU ?_
      refine Ops.no ?_
      refine oq (iH rfl rfl rfl) rfl (ak rfl rfl rfl) rfl rfl ?_
      refine agW (iH rfl rfl rfl) rfl ?_
      refine Ops.nil ?_
      refine⟨rfl,rfl,_,?_,⟨rfl,rfl,rfl,rfl,rfl,rfl,rfl,rfl,trivial⟩,.refl⟩
      first | rfl | exact decide_eq_false (by omega) | (exfalso;omega)
   ·intro B13 amT
    refine W.cond rfl (fun c87=>?_) (fun c87=>?_)
    ·refine W.seq<|W.region rfl<|agb rfl rfl rfl<|pq<|W.ret<|aY<|cZ<|aY<|aY ?_
     refine cZ<|cZ<|aY<|aY<|cZ<|aY ?_
     rw[amT]at c87
     cases c87
    ·refine W.skip<|aA<|W.seq ?_
     refine W.aiB (σ:=Bool) (fun b=>b=true↔(WR B q).head? =some (d:Int)) (fun b=>[(96,.bool b),(11,.slice aw (WR B q).length cw),(10,I q),(9,I d),(8,.slice at_ us.length ct),(7,bI Vo),(4,bI wC)]) (fun _=>(Vo,.cells #[(.slice (some ⟨az3,0,none⟩) 1 1),(.slice apt ss.length cp_)] ayn (0,0))::(az3,.cells #[I r,I f.lo,I f.hi,I 9] ayG (0,0))::(wC,.cells (Wv (.slice asl B.ss.length cs) (.slice ar B.rs.length cr) (.slice am [B.ms.1,B.ms.2.1,B.ms.2.2].length cm) (.slice ah B.hs.length ch) (.slice apf B.ps.length cpf)) MP (0,0))::(S++(SS++(ST++(SO++G))))) ?_ ?_
     ·refine W.region rfl<|qm rfl rfl rfl ?_
      refine agW (nD rfl rfl rfl) rfl ?_
      refine qm rfl rfl rfl ?_
      refine Ops.ask (fun aou=>?_) (fun aou=>?_)
      ·refine oq (aN rfl rfl) rfl (ak rfl rfl rfl) rfl rfl ?_
       obtain⟨βo,co,Jo,hsa,hSe,-,-,-,hPo,-⟩:=hOw.open (by first | omega | (simp at*;omega))
       subst hsa
       obtain⟨x,rr,hx⟩:∃x rr,WR B q=x::rr:=by
        rcases hl0:WR B q with _ | ⟨x,rr⟩
        ·rw[hl0]at hn';simp at*;omega
        ·exact⟨x,rr,rfl⟩
       have hcell:co[0+0*1+0]? =some (I x):=hPo.Bo (show(WR B q)[0]? =some x by rw[hx];rfl) 0 (by decide)
       first | refine oq (G_ rfl rfl rfl) rfl (ak rfl rfl rfl) rfl rfl ?_ | refine oq (o_ rfl rfl rfl) rfl (ak rfl rfl rfl) rfl rfl ?_
       refine oq (iQ rfl rfl (.inr (fun _ e=>by cases e;rw[hSe];exact .tail _ (.tail _ (.tail _ (List.mem_append_left _ (.head _)))))) hcell) rfl (ak rfl rfl rfl) rfl rfl ?_
       refine oq (aN rfl rfl) rfl (ak rfl rfl rfl) rfl rfl ?_
       refine oq (nD rfl rfl rfl) rfl (ak rfl rfl rfl) rfl rfl ?_
       refine agW (dG rfl rfl rfl) rfl ?_
       refine Ops.nil ?_
       refine⟨rfl,rfl,_,?_,⟨rfl,rfl,rfl,rfl,rfl,rfl,rfl,trivial⟩,.refl⟩
       first
       | (rw[decide_eq_true_iff,hx];simp;done)
       | (have:WR B q=[]:=List.eq_nil_of_length_eq_zero (by first | omega | (simp at*;omega));rw[this];simp;done)
       | (have:WR B q=[]:=List.eq_nil_of_length_eq_zero (by first | omega | (simp at*;omega));rw[this];simp at*;omega)
      ·refine Ops.no ?_
       refine Ops.no ?_
       refine Ops.no ?_
       refine Ops.no ?_
       refine Ops.no ?_
       refine agW (iH rfl rfl rfl) rfl ?_
       refine Ops.nil ?_
       refine⟨rfl,rfl,_,?_,⟨rfl,rfl,rfl,rfl,rfl,rfl,rfl,trivial⟩,.refl⟩
       first
       | (rw[decide_eq_true_iff,hx];simp;done)
       | (have:WR B q=[]:=List.eq_nil_of_length_eq_zero (by first | omega | (simp at*;omega));rw[this];simp;done)
       | (have:WR B q=[]:=List.eq_nil_of_length_eq_zero (by first | omega | (simp at*;omega));rw[this];simp at*;omega)
     ·intro B15 aLE
      refine W.cond rfl (fun c96=>?_) (fun c96=>?_)
      ·have hhd:=aLE.1 c96
       have hpos:0<(WR B q).length:=List.length_pos_iff.2 (fun e=>by rw[e]at hhd;cases hhd)
       obtain⟨βo,co,Jo,hsa,hSe,-,-,-,hPo,-⟩:=hOw.open hpos
       subst hsa
       refine W.seq ?_
       have hj0:∀j,j≤0→(WR B q)[j]? =some ((d+j:Nat):Int):=fun j hj=>by
        have:j=0:=by omega
        rw[this,←List.head?_eq_getElem?,hhd];rfl
       refine W.region rfl<|agb rfl rfl rfl<|pq<|W.seq<|W.block ?_
       refine W.loop (σ:=Nat) (fun w=>w≤3∧∀j,j≤w→(WR B q)[j]? =some ((d+j:Nat):Int)) (fun w=>[(13,I w),(11,.slice (some ⟨βo,0,none⟩) (WR B q).length cw),(10,I q),(9,I d),(8,.slice at_ us.length ct),(7,bI Vo),(4,bI wC)]) (fun _=>(Vo,.cells #[(.slice (some ⟨az3,0,none⟩) 1 1),(.slice apt ss.length cp_)] ayn (0,0))::(az3,.cells #[I r,I f.lo,I f.hi,I 9] ayG (0,0))::(wC,.cells (Wv (.slice asl B.ss.length cs) (.slice ar B.rs.length cr) (.slice am [B.ms.1,B.ms.2.1,B.ms.2.2].length cm) (.slice ah B.hs.length ch) (.slice apf B.ps.length cpf)) MP (0,0))::(S++(SS++(ST++(SO++G))))) (fun w=>3-w) 0 ⟨by omega,hj0⟩ ⟨rfl,rfl,rfl,rfl,rfl,rfl,rfl,trivial⟩ .refl ?_
       rintro w ⟨hw,hj⟩
       refine W.seq<|W.seq ?_
       refine W.aiB (σ:=Bool) (fun b=>b=true→w<3∧(WR B q)[w+1]? =some ((d+(w+1):Nat):Int)) (fun b=>[(117,.bool b),(13,I w),(11,.slice (some ⟨βo,0,none⟩) (WR B q).length cw),(10,I q),(9,I d),(8,.slice at_ us.length ct),(7,bI Vo),(4,bI wC)]) (fun _=>(Vo,.cells #[(.slice (some ⟨az3,0,none⟩) 1 1),(.slice apt ss.length cp_)] ayn (0,0))::(az3,.cells #[I r,I f.lo,I f.hi,I 9] ayG (0,0))::(wC,.cells (Wv (.slice asl B.ss.length cs) (.slice ar B.rs.length cr) (.slice am [B.ms.1,B.ms.2.1,B.ms.2.2].length cm) (.slice ah B.hs.length ch) (.slice apf B.ps.length cpf)) MP (0,0))::(S++(SS++(ST++(SO++G))))) ?_ ?_
       ·refine W.region rfl<|qm rfl rfl rfl ?_
        refine ag1 rfl ?_
        refine qm rfl rfl rfl ?_
        refine agW (dM rfl rfl) rfl ?_
        refine agW (fO rfl rfl rfl) rfl ?_
        refine qm rfl rfl rfl ?_
        refine Ops.ask (fun aLF=>?_) (fun aLF=>?_)
        ·refine oq (aN rfl rfl) rfl (ak rfl rfl rfl) rfl rfl ?_
         refine oq (fO rfl rfl rfl) rfl (ak rfl rfl rfl) rfl rfl ?_
         refine agW (dG rfl rfl rfl) rfl ?_
         refine qm rfl rfl rfl ?_
         refine Ops.ask (fun aKN=>?_) (fun aKN=>?_)
         ·refine oq (aN rfl rfl) rfl (ak rfl rfl rfl) rfl rfl ?_
          refine oq (aN rfl rfl) rfl (ak rfl rfl rfl) rfl rfl ?_
          refine KU (Zi rfl rfl rfl) (congrArg (Value.int .i64) (show(w:Int)+1=((w+1:Nat):Int) by omega)) rfl (ak rfl rfl rfl) rfl rfl ?_
          first | refine oq (G_ rfl rfl rfl) rfl (ak rfl rfl rfl) rfl rfl ?_ | refine oq (o_ rfl rfl rfl) rfl (ak rfl rfl rfl) rfl rfl ?_
          obtain⟨x,hx⟩:∃x,(WR B q)[w+1]? =some x:=⟨_,List.getElem?_eq_getElem (by first | omega | (simp at*;omega))⟩
          have hcell:co[0+(w+1)*1+0]? =some (I x):=hPo.Bo hx 0 (by decide)
          refine oq (iQ rfl rfl (.inr (fun _ e=>by cases e;rw[hSe];exact .tail _ (.tail _ (.tail _ (List.mem_append_left _ (.head _)))))) hcell) rfl (ak rfl rfl rfl) rfl rfl ?_
          refine oq (aN rfl rfl) rfl (ak rfl rfl rfl) rfl rfl ?_
          refine oq (aN rfl rfl) rfl (ak rfl rfl rfl) rfl rfl ?_
          first | refine oq (Zi rfl rfl rfl) rfl (ak rfl rfl rfl) rfl rfl ?_ | refine oq (MZ rfl rfl rfl) rfl (ak rfl rfl rfl) rfl rfl ?_
          first | refine oq (Zi rfl rfl rfl) rfl (ak rfl rfl rfl) rfl rfl ?_ | refine oq (MZ rfl rfl rfl) rfl (ak rfl rfl rfl) rfl rfl ?_
          refine oq (nD rfl rfl rfl) rfl (ak rfl rfl rfl) rfl rfl ?_
          refine agW (dG rfl rfl rfl) rfl ?_
          refine Ops.nil ?_
          refine⟨rfl,rfl,_,?_,⟨rfl,rfl,rfl,rfl,rfl,rfl,rfl,rfl,trivial⟩,.refl⟩
          first
          | (intro h0;cases h0;done)
          | (intro h0;have:=of_decide_eq_true h0;first | omega | (refine⟨by first | omega | (simp at*;omega),?_⟩;rw[hx];congr 1 <;>omega))
         ·refine Ops.no ?_
          refine Ops.no ?_
          refine Ops.no ?_
          refine Ops.no ?_
          refine Ops.no ?_
          refine Ops.no ?_
          refine Ops.no ?_
          refine Ops.no ?_
          refine Ops.no ?_
          refine Ops.no ?_
          refine agW (iH rfl rfl rfl) rfl ?_
          refine Ops.nil ?_
          refine⟨rfl,rfl,_,?_,⟨rfl,rfl,rfl,rfl,rfl,rfl,rfl,rfl,trivial⟩,.refl⟩
          first
          | (intro h0;cases h0;done)
          | (intro h0;have:=of_decide_eq_true h0;first | omega | (refine⟨by first | omega | (simp at*;omega),?_⟩;rw[hx];congr 1 <;>omega))
        ·refine Ops.no ?_
         refine Ops.no ?_
         refine agW (iH rfl rfl rfl) rfl ?_
         refine qm rfl rfl rfl ?_
         refine Ops.no ?_
         refine Ops.no ?_
         refine Ops.no ?_
         refine Ops.no ?_
         refine Ops.no ?_
         refine Ops.no ?_
         refine Ops.no ?_
         refine Ops.no ?_
         refine Ops.no ?_
         refine Ops.no ?_
         refine agW (iH rfl rfl rfl) rfl ?_
         refine Ops.nil ?_
         refine⟨rfl,rfl,_,?_,⟨rfl,rfl,rfl,rfl,rfl,rfl,rfl,rfl,trivial⟩,.refl⟩
         first
         | (intro h0;cases h0;done)
         | (intro h0;have:=of_decide_eq_true h0;first | omega | (refine⟨by first | omega | (simp at*;omega),?_⟩;rw[hx];congr 1 <;>omega))
       ·intro B17 aMI
        refine W.cond rfl (fun c117=>?_) (fun c117=>?_)
        ·obtain⟨hw3,hx⟩:=aMI c117
         refine W.skip<|aA<|W.block<|W.region rfl<|qm rfl rfl rfl ?_
         refine ag1 rfl ?_
         refine agb rfl rfl rfl<|Ops.nil<|dI<|aA ?_
         refine⟨rfl,w+1,⟨by omega,fun j hj'=>?_⟩,by omega,⟨lk rfl (show I _=I _ by congr 1),rfl,rfl,rfl,rfl,rfl,rfl,trivial⟩,.refl⟩
         by_cases e:j=w+1
         ·rw[e];exact hx
         ·exact hj j (by omega)
        ·refine W.exit<|bP<|bP<|gG<|aA<|W.region rfl ?_
         refine agY rfl ?_
         refine agX rfl ?_
         refine qm rfl rfl rfl<|qm rfl rfl rfl ?_
         refine agW (eH (cs:= #[I d,I 1,I w]) rfl rfl rfl) rfl ?_
         refine Ops.NK (cs:= #[I d,I 1,I w]) (fun aLG=>?_) rfl
         refine oe rfl wn rfl rfl (iW (row:=St.row) (l':=[⟨d,1,w⟩]) rfl rfl rfl aEm (.tail (.tail (.tail (.tail (.app .head))))) (fun h2 _ hl=>Sl.mk (hl aLG _ (.head _)) rfl (Part.all [I d,I 1,I w])) (by simp;omega) (by decide) rfl (fun v1 S1 hS1=>?_))
         obtain⟨ap1,cp1,rfl⟩:=hS1.dA
         refine qm rfl rfl rfl<|qm rfl rfl rfl ?_
         refine Ops.NK (cs:= #[.slice (some ⟨βo,0,none⟩) (WR B q).length cw]) (fun aLH=>?_) rfl
         refine oe rfl wn rfl rfl (iW (row:=ags) (l':=[(⟨some ⟨βo,0,none⟩,(WR B q).length,cw⟩:Sv)]) rfl rfl rfl hOt (.tail (.tail (.tail (.tail (.tail (.app (.app .head))))))) (fun h2 _ hl=>Sl.mk (hl aLH _ (.head _)) rfl (Part.all _)) (by simp;omega) (by decide) rfl (fun v2 S2 hS2=>?_))
         obtain⟨at1,ct1,rfl⟩:=hS2.dA
         refine agY rfl ?_
         refine Ops.yG ?_
         refine agb rfl rfl rfl<|Ops.nil<|dI<|aA<|W.region rfl<|qm rfl rfl rfl ?_
         refine ag1 rfl ?_
         refine agb rfl rfl rfl<|pq ?_
         refine⟨rfl,q+1,(ss++[⟨d,1,w⟩],_,S1),(ts++[WR B q],us++[⟨some ⟨βo,0,none⟩,(WR B q).length,cw⟩],_,S2,SO++S),⟨by omega,hI.add hhd (by have:=ok.h2;omega) (by omega) (by omega) (fun x h1 h2=>?_),hS1,hS2,hOo.snoc hOw⟩,by omega,⟨lk rfl (show I _=I _ by congr 1),rfl,rfl,rfl,rfl,trivial⟩,.skip rfl (.skip rfl (.dF (show List.Perm _ ((Vo,.cells #[(.slice (some ⟨az3,0,none⟩) 1 1),(.slice ap1 (ss++[(⟨d,1,w⟩:St)]).length cp1)] ayn (0,0))::(az3,.cells #[I r,I f.lo,I f.hi,I 9] ayG (0,0))::(wC,.cells (Wv (.slice asl B.ss.length cs) (.slice ar B.rs.length cr) (.slice am [B.ms.1,B.ms.2.1,B.ms.2.2].length cm) (.slice ah B.hs.length ch) (.slice apf B.ps.length cpf)) MP (0,0))::(S++(S1++(S2++(SO++G)))):eG)from(agQ fun y=>by simp only[List.count_append,List.count_cons,List.count_nil];omega))))⟩
         have h3:=hj (x-d).toNat (by omega)
         rw[show((d+(x-d).toNat:Nat):Int)=x by omega]at h3
         exact List.mem_of_getElem? h3
      ·refine W.skip<|dI<|aA<|W.region rfl<|qm rfl rfl rfl ?_
       refine ag1 rfl ?_
       refine agb rfl rfl rfl<|pq ?_
       refine⟨rfl,q+1,(ss,_,SS),(ts,us,_,ST,SO),⟨by omega,hI.skip (fun e=>by rw[aLE.2 e]at c96;cases c96),aEm,hOt,hOo⟩,by omega,⟨lk rfl (show I _=I _ by congr 1),rfl,rfl,rfl,rfl,trivial⟩,.cons (.cons (.cons (Sb.left .refl hOw.shut)))⟩
  ·obtain rfl:q=B.ss.length:=by omega
   refine W.exit<|bP<|bP<|gG<|dI<|aA<|W.region rfl<|qm rfl rfl rfl ?_
   refine ag1 rfl ?_
   refine agb rfl rfl rfl<|pq ?_
   refine⟨rfl,d+1,(ss,_,SS),(ts,us,_,ST,SO),⟨by omega,hI.row,aEm,hOt,hOo⟩,by omega,⟨lk rfl (show I _=I _ by congr 1),rfl,rfl,rfl,trivial⟩,.refl⟩
 ·obtain rfl:d=B.hs.length+1:=by omega
  have hck:Y2 [(⟨r,f.lo,f.hi,9⟩:Fl)] ss=0:=by
   have h1:=aGm (f:=f) (r:=r) hcf hr3
   unfold Y2
   rw[if_neg (by simp),if_neg (by simp),if_neg (by simp only[aw6];rw[if_pos h1];simp),if_neg (by have:=aDt (B:=B) (D:=B.hs.length+1);rw[←hI.cnt]at this;omega)]
   exact hI.ck
  have hss:ss.length≤3:=by rw[hI.cnt];exact Nat.le_trans aDt hs2
  have htl:=hI.len
  have hul:=hOo.len
  obtain⟨hbd,hbn,hba⟩:=aIK hck (fun s hs=>(hI.day s hs).2.2.2.1)
  obtain⟨hbe,hbl⟩:=aIW hck
  have hb1:(aye [(⟨r,f.lo,f.hi,9⟩:Fl)] ss).2.1=aB9 (aye [(⟨r,f.lo,f.hi,9⟩:Fl)] ss).1 ss.length:=by rw[←hbn];exact congrArg (fun p=>p.2.1) hbe
  have hb2:(aye [(⟨r,f.lo,f.hi,9⟩:Fl)] ss).2.2=0:=congrArg (fun p=>p.2.2) hbe
  have aH4:ss.length<r→aB9 (aye [(⟨r,f.lo,f.hi,9⟩:Fl)] ss).1 ss.length=ss.length:=fun h=>by
   rw[←hbn];exact hba (fun s hs=>by have:=(hI.day s hs).2.2.1;omega) rfl (by simpa using h)
  clear hba hbe
  obtain⟨bb,hbb⟩:∃bb,aye [(⟨r,f.lo,f.hi,9⟩:Fl)] ss=bb:=⟨_,rfl⟩
  rw[hbb]at hbd hbl hb1 hb2 aH4
  refine W.exit<|bP<|bP<|gG<|aA ?_
  refine W.sb (F':=SS++((az3,.cells #[I r,I f.lo,I f.hi,I 9] ayG (0,0))::(Vo,.cells #[(.slice (some ⟨az3,0,none⟩) 1 1),(.slice apt ss.length cp_)] ayn (0,0))::(wC,.cells (Wv (.slice asl B.ss.length cs) (.slice ar B.rs.length cr) (.slice am [B.ms.1,B.ms.2.1,B.ms.2.2].length cm) (.slice ah B.hs.length ch) (.slice apf B.ps.length cpf)) MP (0,0))::(ST++(SO++G)))) (.dF (agQ fun y=>by simp only[List.count_append,List.count_cons,List.count_nil];omega)) ?_
  refine JU aEm (fun y1 hE1 aKO aKP=>?_)
  refine W.freeze rfl (fun y2 hE2 aIX aKQ=>?_)
  refine W.freeze rfl (fun y3 hE3 hb7 hz7=>?_)
  refine W.freeze rfl (fun y4 hE4 hb4 hz4=>?_)
  refine JU hOt (fun y5 hE5 aIY _=>?_)
  refine agG hOo (fun y6 hE6 htt=>?_)
  replace aIY:=aIY.ext hE6
  replace hb4:=(hE5.trans hE6).1 _ _ hb4
  replace hb7:=(hE4.trans (hE5.trans hE6)).1 _ _ hb7
  replace aIX:=(hE3.trans (hE4.trans (hE5.trans hE6))).1 _ _ aIX
  replace aKQ:=(hE3.trans (hE4.trans (hE5.trans hE6))).2 _ aKQ
  replace aKO:=aKO.ext (hE2.trans (hE3.trans (hE4.trans (hE5.trans hE6))))
  replace aKP:=aKP.ext (hE2.trans (hE3.trans (hE4.trans (hE5.trans hE6))))
  have hgz:=(hE1.trans (hE2.trans (hE3.trans (hE4.trans (hE5.trans hE6))))).1 _ _ hg
  have z0z:=(hE1.trans (hE2.trans (hE3.trans (hE4.trans (hE5.trans hE6))))).2 _ z0
  refine W.seq<|W.region rfl ?_
  first | refine ag2 rfl ?_ | refine agW (ady rfl rfl) rfl ?_
  refine c0 (fun h' hE hL=>aHA _ hS hmb h' [(⟨r,f.lo,f.hi,9⟩:Fl)] ss (.slice (some ⟨az3,0,none⟩) 1 1) (.slice apt ss.length cp_) Eg zg (Sl.mk (hE.1 _ _ aIX) rfl (Part.all [I r,I f.lo,I f.hi,I 9])) (aKO.ext hE) (fun b off n cap e=>by cases e;exact hE.2 _ aKQ) (aKP.ext hE) (hE.1 _ _ hgz) (hE.2 _ z0z)) (fun v A' hv=>?_)
  rw[hbb]at hv
  obtain⟨u,Su,rfl,hOu,hsb⟩:=hv
  obtain⟨au,cu,rfl⟩:=hOu.dA
  refine Ops.sb (F':=Su++G) (hsb.app .refl) ?_
  refine qm rfl rfl rfl<|oq (bD rfl rfl rfl) rfl wn rfl rfl<|oq (bD rfl rfl rfl) rfl wn rfl rfl<|oq (bD rfl rfl rfl) rfl wn rfl rfl<|agb rfl rfl rfl<|agb rfl rfl rfl<|agb rfl rfl rfl<|pq<|W.seq ?_
  refine W.seq<|W.region rfl<|qm rfl rfl rfl ?_
  refine KU (nG rfl rfl rfl) (congrArg Value.bool (decide_eq_false (by omega))) rfl wn rfl rfl ?_
  refine qm rfl rfl rfl ?_
  refine oq (aN rfl rfl) rfl (ak rfl rfl rfl) rfl rfl ?_
  refine oq (dM rfl rfl) rfl (ak rfl rfl rfl) rfl rfl ?_
  refine oq (aN rfl rfl) rfl (ak rfl rfl rfl) rfl rfl ?_
  refine oq (dM rfl rfl) rfl (ak rfl rfl rfl) rfl rfl ?_
  refine KU (nG rfl rfl rfl) (congrArg Value.bool (decide_eq_false (by omega))) rfl (ak rfl rfl rfl) rfl rfl ?_
  refine agW (iH rfl rfl rfl) rfl ?_
  refine pq ?_
  refine W.bZ ?_
  refine W.skip<|aA ?_
  refine JU hOu (fun y7 hE7 aMJ _=>?_)
  replace aIY:=aIY.ext hE7
  replace hb4:=hE7.1 _ _ hb4
  replace hb7:=hE7.1 _ _ hb7
  replace aIX:=hE7.1 _ _ aIX
  replace hgz:=hE7.1 _ _ hgz
  replace z0z:=hE7.2 _ z0z
  refine W.seq<|W.region rfl<|agb rfl rfl rfl<|pq<|W.seq<|W.seq<|W.region rfl<|agb rfl rfl rfl<|Ops.nil ?_
  refine aA<|W.block ?_
  refine W.loop (σ:=Nat) (fun i=>i≤ss.length) (fun i=>[(18,I i),(17,I (aB9 bb.1 i)),(15,I bb.2.1),(14,.slice au bb.1.length cu),(8,.slice at_ us.length ct),(7,bI Vo),(4,bI wC)]) (fun _=>G) (fun i=>ss.length-i) 0 (Nat.zero_le _) ⟨rfl,lk rfl rfl,rfl,rfl,rfl,rfl,rfl,trivial⟩ .refl ?_
  rintro i hi
  refine W.seq<|W.seq<|W.region rfl<|qm rfl rfl rfl<|qm rfl rfl rfl ?_
  refine agW (dM rfl rfl) rfl ?_
  refine agW (fO rfl rfl rfl) rfl ?_
  refine pq ?_
  refine W.bC rfl (fun aMK=>?_) (fun aMK=>?_)
  ·have hil:i<ss.length:=by omega
   obtain⟨p,hp,-⟩:=has (show i<bb.1.length by omega)
   obtain⟨sv,hsv,-⟩:=has (show i<us.length by omega)
   obtain⟨tl,aLI,-⟩:=has (show i<ts.length by omega)
   obtain⟨s,hs,-⟩:=has hil
   have hbe:qw bb.1 i=p:=by simp[qw,List.getD,hp]
   obtain⟨bu,ou,cuu,Eu,fzu,rfl,hbu,-,hyu,hzu⟩:=aMJ.at hp
   have aNA:cuu[ou+i*2+0]? =some (I p.fl):=hzu 0 (by decide)
   have aNB:cuu[ou+i*2+1]? =some (I p.day):=hzu 1 (by decide)
   obtain⟨bt,ot,ctt,Et,fzt,rfl,hbt,-,hyt,hzt⟩:=aIY.at hsv
   have aNC:ctt[ot+i*1+0]? =some (.slice sv.a sv.n sv.cap):=hzt 0 (by decide)
   have hsN:aB9 bb.1 (i+1)=aB9 bb.1 i+(if 0≤p.fl then 1 else 0):=by rw[aB9,ay2,hbe];rfl
   have hsb:=aHB bb.1 i
   refine W.skip<|aA<|W.seq<|W.block<|W.seq<|W.seq<|W.region rfl<|qm rfl rfl rfl<|qm rfl rfl rfl ?_
   refine ag3 rfl ?_
   refine agY rfl ?_
   refine agX rfl ?_
   refine agW (fO rfl rfl rfl) rfl ?_
   refine pq ?_
   refine W.bC rfl (fun aML=>?_) (fun aML=>?_)
   ·refine W.exit<|bP<|gG<|aA<|W.region rfl<|qm rfl rfl rfl ?_
    refine ag1 rfl ?_
    refine agb rfl rfl rfl<|pq ?_
    refine⟨rfl,i+1,by omega,by omega,⟨lk rfl (show I _=I _ by congr 1),lk rfl (show I _=I _ by congr 1;rw[hsN];split <;>omega),rfl,rfl,rfl,rfl,rfl,trivial⟩,.refl⟩
   ·refine W.skip<|aA<|W.seq<|W.region rfl<|qm rfl rfl rfl ?_
    refine ag1 rfl ?_
    refine agb rfl rfl rfl<|pq<|W.seq ?_
    refine W.DR [] (n:=11) rfl ?_
    refine dn 0 (aN rfl rfl) rfl ?_
    refine dn 1 (aN rfl rfl) rfl ?_
    first | refine dn 2 (G_ rfl rfl rfl) rfl ?_ | refine dn 2 (o_ rfl rfl rfl) rfl ?_
    refine dn 3 (iQ rfl rfl) rfl ?_
    refine dn 4 (aN rfl rfl) rfl ?_
    refine dn 5 (aN rfl rfl) rfl ?_
    first | refine dn 6 (G_ rfl rfl rfl) rfl ?_ | refine dn 6 (o_ rfl rfl rfl) rfl ?_
    refine dn 7 (ay rfl rfl) rfl ?_
    refine dn 8 (iQ rfl rfl) rfl ?_
    have hfit:=hbd i p s hp hs (by omega)
    obtain⟨htn,htm⟩:=hI.at_ i s tl hs aLI
    have hin:=htm p.day hfit.1 hfit.2
    obtain⟨hsl1,-⟩:=htt i sv tl hsv aLI
    refine ae (i:=9) rfl an rfl rfl (QZ (args:=[_,_]) (A:=[]) rfl rfl (Seg.head (A:=[])) (fun h' hE hL=>afl _ h' tl _ p.day (hsl1.ext (hE7.trans hE)) (by omega)) (fun v A' hv=>?_))
    refine⟨.inr Keeps.nil,?_⟩
    obtain⟨n,rfl,hn,hsh⟩:=hv
    refine Any.sb (Sb.left .refl hsh) ?_
    have hn0:=hn.2 hin
    refine dn 10 (fO rfl rfl rfl) rfl ?_
    refine az ?_
    refine aA ?_
    refine W.bC rfl (fun c171=>?_) (fun c171=>?_)
    ·refine W.seq<|W.region rfl<|agb rfl rfl rfl<|pq<|W.ret<|cZ<|aY<|aY<|cZ ?_
     refine aY ?_
     omega
    ·refine W.skip<|dI<|aA<|W.region rfl<|qm rfl rfl rfl ?_
     refine ag1 rfl ?_
     refine agb rfl rfl rfl<|pq ?_
     refine⟨rfl,i+1,by omega,by omega,⟨lk rfl (show I _=I _ by congr 1),lk rfl (show I _=I _ by congr 1;rw[hsN];split <;>omega),rfl,rfl,rfl,rfl,rfl,trivial⟩,.refl⟩
  ·obtain rfl:i=ss.length:=by omega
   refine W.exit<|bP<|bP<|gG<|aA<|W.seq<|W.region rfl ?_
   first | refine ag2 rfl ?_ | refine agW (ady rfl rfl) rfl ?_
   refine c0 (fun h' hE hL=>aJM _ h' _ _ _ _ _ B ok htr (hB h' (fun y o hy=>hL y o (by simp[hy])))) (fun v A' hv=>?_)
   obtain⟨w,e,S,rfl,hsb,hSs,he,hP⟩:=hv
   refine Ops.sb (F':=S++G) (hsb.app .refl) ?_
   have aC7:e=0→ss.length=B.ss.length:=fun h0=>by
    obtain⟨l',-,-,hne⟩:=hP h0
    rw[hI.cnt];exact YZ hne
   have hsc:bb.2.1=aB9 bb.1 ss.length:=hb1
   replace hP:=Nonempty.intro hP
   replace aC7:=Nonempty.intro aC7
   replace aH4:=Nonempty.intro aH4
   refine qm rfl rfl rfl<|oq (bD rfl rfl rfl) rfl wn rfl rfl<|oq (bD rfl rfl rfl) rfl wn rfl rfl<|agb rfl rfl rfl<|agb rfl rfl rfl<|pq<|W.seq<|W.seq ?_
   refine W.aiB (σ:=Bool) (fun b=>b=false) (fun b=>[(207,.bool b),(20,I e),(15,I bb.2.1),(7,bI Vo),(4,bI wC)]) (fun _=>G) ?_ ?_
   ·refine W.region rfl<|qm rfl rfl rfl<|qm rfl rfl rfl ?_
    refine KU (nG rfl rfl rfl) (congrArg Value.bool (decide_eq_false (by omega))) rfl wn rfl rfl ?_
    refine qm rfl rfl rfl ?_
    refine oq (aN rfl rfl) rfl (ak rfl rfl rfl) rfl rfl ?_
    refine oq (nG rfl rfl rfl) rfl (ak rfl rfl rfl) rfl rfl ?_
    refine oq (aN rfl rfl) rfl (ak rfl rfl rfl) rfl rfl ?_
    refine Ops.ask (fun aLJ=>?_) (fun aLJ=>?_)
    ·refine oq (aN rfl rfl) rfl (ak rfl rfl rfl) rfl rfl ?_
     refine oq (nG rfl rfl rfl) rfl (ak rfl rfl rfl) rfl rfl ?_
     refine oq (dG rfl rfl rfl) rfl (ak rfl rfl rfl) rfl rfl ?_
     refine agW (iH rfl rfl rfl) rfl ?_
     refine qm rfl rfl rfl ?_
     refine Ops.ask (fun aKT=>?_) (fun aKT=>?_)
     ·refine Ops.no ?_
      refine Ops.no ?_
      refine Ops.no ?_
      refine Ops.noU ?_
      refine Ops.noU ?_
      refine Ops.noU ?_
      refine Ops.noU ?_
      refine Ops.noU ?_
      refine Ops.noU ?_
      refine Ops.noU ?_
      refine Ops.noU ?_
      refine Ops.noU ?_
      refine Ops.noU ?_
      refine Ops.noU ?_
      refine Ops.noU ?_
      refine Ops.noU ?_
      refine Ops.noU ?_
      refine Ops.no ?_
      refine agW (dG rfl rfl rfl) rfl ?_
      refine Ops.nil ?_
      refine⟨rfl,rfl,_,?_,⟨rfl,rfl,rfl,rfl,rfl,trivial⟩,Sb.left .refl hSs⟩
      first | rfl | exact decide_eq_false (by omega) | (exfalso;omega)
     ·refine oq (aN rfl rfl) rfl (ak rfl rfl rfl) rfl rfl ?_
      refine oq (nD rfl rfl rfl) rfl (ak rfl rfl rfl) rfl rfl ?_
      refine oq (aN rfl rfl) rfl (ak rfl rfl rfl) rfl rfl ?_
      refine Ops.ask (fun aHc=>?_) (fun aHc=>?_)
      ·refine oq (aN rfl rfl) rfl (ak rfl rfl rfl) rfl rfl ?_
       have he0:e=0:=by first | assumption | omega
       obtain⟨hP⟩:=hP
       obtain⟨aC7⟩:=aC7
       obtain⟨l',hl',hOl,hne⟩:=hP he0
       obtain⟨aw,cw,rfl⟩:=hOl.dA
       have aLK:=aC7 he0
       clear hP aC7
       refine oq (dM rfl rfl) rfl (ak rfl rfl rfl) rfl rfl ?_
       refine oq (ay rfl rfl) rfl (ak rfl rfl rfl) rfl rfl ?_
       refine oq (iQ rfl rfl) rfl (ak rfl rfl rfl) rfl rfl ?_
       refine oq (dM rfl rfl) rfl (ak rfl rfl rfl) rfl rfl ?_
       refine oq (nG rfl rfl rfl) rfl (ak rfl rfl rfl) rfl rfl ?_
       refine oq (aN rfl rfl) rfl (ak rfl rfl rfl) rfl rfl ?_
       refine Ops.ask (fun aHd=>?_) (fun aHd=>?_)
       ·refine Ops.no ?_
        refine Ops.no ?_
        refine Ops.no ?_
        refine Ops.no ?_
        refine Ops.no ?_
        refine Ops.no ?_
        refine oq (dG rfl rfl rfl) rfl (ak rfl rfl rfl) rfl rfl ?_
        refine oq (dG rfl rfl rfl) rfl (ak rfl rfl rfl) rfl rfl ?_
        refine agW (iH rfl rfl rfl) rfl ?_
        refine Ops.nil ?_
        refine⟨rfl,rfl,_,?_,⟨rfl,rfl,rfl,rfl,rfl,trivial⟩,Sb.left .refl hSs⟩
        first | rfl | exact decide_eq_false (by omega) | (exfalso;omega)
       ·refine oq (aN rfl rfl) rfl (ak rfl rfl rfl) rfl rfl ?_
        refine oq (dM rfl rfl) rfl (ak rfl rfl rfl) rfl rfl ?_
        refine oq (ay rfl rfl) rfl (ak rfl rfl rfl) rfl rfl ?_
        refine oq (iQ rfl rfl) rfl (ak rfl rfl rfl) rfl rfl ?_
        refine oq (dM rfl rfl) rfl (ak rfl rfl rfl) rfl rfl ?_
        refine oq (nG rfl rfl rfl) rfl (ak rfl rfl rfl) rfl rfl ?_
        refine oq (iH rfl rfl rfl) rfl (ak rfl rfl rfl) rfl rfl ?_
        refine oq (dG rfl rfl rfl) rfl (ak rfl rfl rfl) rfl rfl ?_
        refine agW (iH rfl rfl rfl) rfl ?_
        refine Ops.nil ?_
        refine⟨rfl,rfl,_,?_,⟨rfl,rfl,rfl,rfl,rfl,trivial⟩,Sb.left .refl hSs⟩
        first | rfl | exact decide_eq_false (by omega) | (exfalso;omega)
      ·refine Ops.no ?_
       refine Ops.no ?_
       refine Ops.no ?_
       refine Ops.no ?_
       refine Ops.no ?_
       refine Ops.no ?_
       refine Ops.no ?_
       refine Ops.noU ?_
       refine Ops.noU ?_
       refine Ops.noU ?_
       refine Ops.noU ?_
       refine Ops.noU ?_
       refine Ops.noU ?_
       refine Ops.no ?_
       refine oq (iH rfl rfl rfl) rfl (ak rfl rfl rfl) rfl rfl ?_
       refine agW (iH rfl rfl rfl) rfl ?_
       refine Ops.nil ?_
       refine⟨rfl,rfl,_,?_,⟨rfl,rfl,rfl,rfl,rfl,trivial⟩,Sb.left .refl hSs⟩
       first | rfl | exact decide_eq_false (by omega) | (exfalso;omega)
    ·refine Ops.no ?_
     refine Ops.no ?_
     refine oq (iH rfl rfl rfl) rfl (ak rfl rfl rfl) rfl rfl ?_
     refine agW (iH rfl rfl rfl) rfl ?_
     refine qm rfl rfl rfl ?_
     refine oq (aN rfl rfl) rfl (ak rfl rfl rfl) rfl rfl ?_
     refine oq (nD rfl rfl rfl) rfl (ak rfl rfl rfl) rfl rfl ?_
     refine oq (aN rfl rfl) rfl (ak rfl rfl rfl) rfl rfl ?_
     refine Ops.ask (fun aHc=>?_) (fun aHc=>?_)
     ·refine oq (aN rfl rfl) rfl (ak rfl rfl rfl) rfl rfl ?_
      have he0:e=0:=by first | assumption | omega
      obtain⟨hP⟩:=hP
      obtain⟨aC7⟩:=aC7
      obtain⟨l',hl',hOl,hne⟩:=hP he0
      obtain⟨aw,cw,rfl⟩:=hOl.dA
      have aLK:=aC7 he0
      clear hP aC7
      refine oq (dM rfl rfl) rfl (ak rfl rfl rfl) rfl rfl ?_
      refine oq (ay rfl rfl) rfl (ak rfl rfl rfl) rfl rfl ?_
      refine oq (iQ rfl rfl) rfl (ak rfl rfl rfl) rfl rfl ?_
      refine oq (dM rfl rfl) rfl (ak rfl rfl rfl) rfl rfl ?_
      refine oq (nG rfl rfl rfl) rfl (ak rfl rfl rfl) rfl rfl ?_
      refine oq (aN rfl rfl) rfl (ak rfl rfl rfl) rfl rfl ?_
      refine Ops.ask (fun aHd=>?_) (fun aHd=>?_)
      ·refine Ops.no ?_
       refine Ops.no ?_
       refine Ops.no ?_
       refine Ops.no ?_
       refine Ops.no ?_
       refine Ops.no ?_
       refine oq (dG rfl rfl rfl) rfl (ak rfl rfl rfl) rfl rfl ?_
       refine oq (dG rfl rfl rfl) rfl (ak rfl rfl rfl) rfl rfl ?_
       refine agW (iH rfl rfl rfl) rfl ?_
       refine Ops.nil ?_
       refine⟨rfl,rfl,_,?_,⟨rfl,rfl,rfl,rfl,rfl,trivial⟩,Sb.left .refl hSs⟩
       first | rfl | exact decide_eq_false (by omega) | (exfalso;omega)
      ·refine oq (aN rfl rfl) rfl (ak rfl rfl rfl) rfl rfl ?_
       refine oq (dM rfl rfl) rfl (ak rfl rfl rfl) rfl rfl ?_
       refine oq (ay rfl rfl) rfl (ak rfl rfl rfl) rfl rfl ?_
       refine oq (iQ rfl rfl) rfl (ak rfl rfl rfl) rfl rfl ?_
       refine oq (dM rfl rfl) rfl (ak rfl rfl rfl) rfl rfl ?_
       refine oq (nG rfl rfl rfl) rfl (ak rfl rfl rfl) rfl rfl ?_
       refine oq (iH rfl rfl rfl) rfl (ak rfl rfl rfl) rfl rfl ?_
       refine oq (dG rfl rfl rfl) rfl (ak rfl rfl rfl) rfl rfl ?_
       refine agW (iH rfl rfl rfl) rfl ?_
       refine Ops.nil ?_
       refine⟨rfl,rfl,_,?_,⟨rfl,rfl,rfl,rfl,rfl,trivial⟩,Sb.left .refl hSs⟩
       first | rfl | exact decide_eq_false (by omega) | (exfalso;omega)
     ·refine Ops.no ?_
      refine Ops.no ?_
      refine Ops.no ?_
      refine Ops.no ?_
      refine Ops.no ?_
      refine Ops.no ?_
      refine Ops.no ?_
      refine Ops.noU ?_
      refine Ops.noU ?_
      refine Ops.noU ?_
      refine Ops.noU ?_
      refine Ops.noU ?_
      refine Ops.noU ?_
      refine Ops.no ?_
      refine oq (iH rfl rfl rfl) rfl (ak rfl rfl rfl) rfl rfl ?_
      refine agW (iH rfl rfl rfl) rfl ?_
      refine Ops.nil ?_
      refine⟨rfl,rfl,_,?_,⟨rfl,rfl,rfl,rfl,rfl,trivial⟩,Sb.left .refl hSs⟩
      first | rfl | exact decide_eq_false (by omega) | (exfalso;omega)
   ·intro B32 aMN
    refine W.cond rfl (fun aKU=>?_) (fun aKU=>?_)
    ·refine W.seq<|W.region rfl<|agb rfl rfl rfl<|pq<|W.ret<|aY ?_
     rw[aMN]at aKU
     cases aKU
    ·refine W.skip<|aA<|W.seq<|W.seq ?_
     refine W.aiB (σ:=Bool) (fun b=>b=false) (fun b=>[(227,.bool b)]) (fun _=>G) ?_ ?_
     ·refine W.rE (n:=20) rfl ?_
      refine dn 0 (aN rfl rfl) rfl ?_
      refine dn 1 (nD rfl rfl rfl) rfl ?_
      refine dn 2 (aN rfl rfl) rfl ?_
      refine Any.ask (d':=210) (fun XO=>?_) (fun XO=>?_)
      ·refine aq (i:=3) (ay rfl rfl) rfl (b_ rfl rfl rfl rfl) rfl rfl ?_
       refine aq (i:=4) (iQ rfl rfl) rfl (b_ rfl rfl rfl rfl) rfl rfl ?_
       first | refine aq (i:=5) (G_ rfl rfl rfl) rfl (b_ rfl rfl rfl rfl) rfl rfl ?_ | refine aq (i:=5) (o_ rfl rfl rfl) rfl (b_ rfl rfl rfl rfl) rfl rfl ?_
       refine aq (i:=6) (ay rfl rfl) rfl (b_ rfl rfl rfl rfl) rfl rfl ?_
       refine aq (i:=7) (iQ rfl rfl) rfl (b_ rfl rfl rfl rfl) rfl rfl ?_
       refine aq (i:=8) (ay rfl rfl) rfl (b_ rfl rfl rfl rfl) rfl rfl ?_
       refine aq (i:=9) (iQ rfl rfl) rfl (b_ rfl rfl rfl rfl) rfl rfl ?_
       refine aq (i:=10) (dM rfl rfl) rfl (b_ rfl rfl rfl rfl) rfl rfl ?_
       refine aq (i:=11) (rC rfl rfl rfl) rfl (b_ rfl rfl rfl rfl) rfl rfl ?_
       refine dn 12 (dG rfl rfl rfl) rfl ?_
       refine dn 13 (aN rfl rfl) rfl ?_
       refine Any.ask (d':=221) (fun aKV=>?_) (fun aKV=>?_)
       ·obtain⟨aC7⟩:=aC7
        obtain⟨aH4⟩:=aH4
        have aLK:=aC7 (by assumption)
        clear aC7
        have hbr:=aH4 (by omega)
        refine aq (i:=14) (aN rfl rfl) rfl (b_ rfl rfl rfl rfl) rfl rfl ?_
        refine aq (i:=15) (ay rfl rfl) rfl (b_ rfl rfl rfl rfl) rfl rfl ?_
        refine aq (i:=16) (iQ rfl rfl) rfl (b_ rfl rfl rfl rfl) rfl rfl ?_
        refine aq (i:=17) (dM rfl rfl) rfl (b_ rfl rfl rfl rfl) rfl rfl ?_
        refine aq (i:=18) (nG rfl rfl rfl) rfl (b_ rfl rfl rfl rfl) rfl rfl ?_
        refine dn 19 (dG rfl rfl rfl) rfl ?_
        refine az ?_
        refine⟨rfl,rfl,_,?_,⟨rfl,trivial⟩,.refl⟩
        first | rfl | exact decide_eq_false (by omega) | (exfalso;omega)
       ·refine ap (i:=14) rfl rfl rfl rfl rfl rfl ?_
        refine ap (i:=15) rfl rfl rfl rfl rfl rfl ?_
        refine ap (i:=16) rfl rfl rfl rfl rfl rfl ?_
        refine ap (i:=17) rfl rfl rfl rfl rfl rfl ?_
        refine ap (i:=18) rfl rfl rfl rfl rfl rfl ?_
        refine dn 19 (iH rfl rfl rfl) rfl ?_
        refine az ?_
        refine⟨rfl,rfl,_,?_,⟨rfl,trivial⟩,.refl⟩
        first | rfl | exact decide_eq_false (by omega) | (exfalso;omega)
      ·refine ap (i:=3) rfl rfl rfl rfl rfl rfl ?_
       refine ap (i:=4) rfl rfl rfl rfl rfl rfl ?_
       refine ap (i:=5) rfl rfl rfl rfl rfl rfl ?_
       refine ap (i:=6) rfl rfl rfl rfl rfl rfl ?_
       refine ap (i:=7) rfl rfl rfl rfl rfl rfl ?_
       refine ap (i:=8) rfl rfl rfl rfl rfl rfl ?_
       refine ap (i:=9) rfl rfl rfl rfl rfl rfl ?_
       refine ap (i:=10) rfl rfl rfl rfl rfl rfl ?_
       refine ap (i:=11) rfl rfl rfl rfl rfl rfl ?_
       refine dn 12 (iH rfl rfl rfl) rfl ?_
       refine dn 13 (aN rfl rfl) rfl ?_
       refine ap (i:=14) rfl rfl rfl rfl rfl rfl ?_
       refine ap (i:=15) rfl rfl rfl rfl rfl rfl ?_
       refine ap (i:=16) rfl rfl rfl rfl rfl rfl ?_
       refine ap (i:=17) rfl rfl rfl rfl rfl rfl ?_
       refine ap (i:=18) rfl rfl rfl rfl rfl rfl ?_
       refine dn 19 (iH rfl rfl rfl) rfl ?_
       refine az ?_
       refine⟨rfl,rfl,_,?_,⟨rfl,trivial⟩,.refl⟩
       first | rfl | exact decide_eq_false (by omega) | (exfalso;omega)
     ·intro B34 aMO
      refine W.cond rfl (fun c227=>?_) (fun c227=>?_)
      ·refine W.seq<|W.region rfl<|agb rfl rfl rfl<|pq<|W.ret<|aY ?_
       rw[aMO]at c227
       cases c227
      ·refine W.skip<|aA<|W.seq<|W.region rfl ?_
       refine cp (fun h' hE hL=>aEl _ hS hmb h' _ _ (hE.1 _ _ hgz) (hE.2 _ z0z)) ?_
       refine agb rfl rfl rfl<|pq<|W.ret ?_
       exact lvq rfl
end Go.aS

/- From a law that answers true to its card: the parts that all laws of this seat share. Conditions: as the cards say; over the given program. -/
namespace Go.aS
open Go.Proofs.YtahkljmgmgacjabGreatDoor
set_option maxRecDepth 100000
set_option maxHeartbeats 4000000
theorem afH:ownKnob prog.godebug=none:=by kernel_rfl
theorem YR:laidOutB prog=true:=by kernel_rfl
theorem et0:prog.globalNamed "errors.errorType" =some 0:=by kernel_rfl
abbrev acf:String:=match(Rows.laid_errors_errorType:DataW Unit)with
 | .iface s _=>s
 | _=> ""
theorem rt0:(prog.cutTypes.find? (·.1==acf)).map (·.2)=some qI:=by kernel_rfl
theorem ad6:prog.types.size=227:=by kernel_rfl
theorem aaG:((List.range 227).filter fun t=>prog.rowNamed t [101,114,114,111,114])=[qM]:=by kernel_rfl
theorem EX:prog.underlying nS=some (.slice dL):=by kernel_rfl
theorem VX:prog.underlying dL=some (.int .i64):=by kernel_rfl
theorem aHe:prog.underlying RS=some .bool:=by kernel_rfl
theorem VY:prog.cellsOf dL=1:=by kernel_rfl

abbrev J9:List (String×DataW Unit):=[("errors.errorType",Rows.laid_errors_errorType)]
theorem aaH{W:World}(h:laidMetH prog J9 W):∃E z,W.heap[0]? =some (.cells #[Ur qM] E z):=by
 have h':laidMet prog [] W∧handlesMet prog J9 W:=h
 obtain⟨name,u,ty,e1,e2,e3,e4,e5⟩:=h'.2 _ (List.mem_singleton.2 rfl)
 have en:name=[101,114,114,111,114]:=(Option.some.inj e1).symm
 subst en
 obtain rfl:=Option.some.inj (rt0.symm.trans e2)
 have hm:ty∈(List.range 227).filter fun t=>prog.rowNamed t [101,114,114,111,114]:=List.mem_filter.2 ⟨List.mem_range.2 (by rw[←ad6];exact e3),e4⟩
 rw[aaG]at hm
 obtain rfl:=List.mem_singleton.1 hm
 simp only[World.var?]at e5
 rw[et0,Option.bind_some]at e5
 split at e5
 ·rename_i cs E z hb
  obtain rfl:=Option.some.inj e5
  exact⟨E,z,hb⟩
 ·cases e5

noncomputable def laidWorld(os:Go.Os):World:=
 let w0:=World.holding prog os ⟨#[], #[],[]⟩
 {w0 with heap:=w0.heap.modify 0 fun
   | .cells _ t frozen=>.cells #[Ur qM] t frozen
   | o=>o}
theorem laidWorld_met(os:Go.Os)(args:Array Value):laidMetH prog J9 ((laidWorld os).forCall (fun _ _=>0) ⟨#[],args,[]⟩).memory:=
 laidMetH_of_parts (laidMet_nil _ _) (by kernel_rfl)

theorem Ld{P:Program}{l:List (String×DataW Unit)}{w w':World}(hh:w.heap=w'.heap)(h:laidMetH P l w):laidMetH P l w':=h.of_heap hh

section
open Go.ChangeShapes Go.WideShapes Go.RowKit
theorem ad7{s:ChangeSpec}{f:FuncId}{fn:Func}(os:Go.Os)(started:os.Started)(H:Type)(enc:TypeId×Value→H)(hfn:prog.funcs[f]? =some fn)(hinit:prog.inits.idxOf? f=none)(hp:fn.params.toList=[nS])(hpa:fn.params= #[nS])(hr:fn.resultTypes.toList=[RS])(hrs:fn.resultTypes.size=1)(hv:s.vars=[])
  (hs:∀d,s.fn H [d]={results:=[.lit (.bool true)],args:=[d]})
  (
   witness:∃(w:World) (tape:Tape) (i:Input),w.os=os∧(w.forCall tape i).Shaped prog∧i.vars=[]∧Input.okWide prog (w.forCall tape i) .any w.heap.size f i∧
   ((s.pre enc prog fn [] false (w.forCall tape i).memory i.args∧laidMetH prog J9 (w.forCall tape i).memory)∧sizedMet enc prog fn (OpenSpec.ofChange s) false (w.forCall tape i).memory i.args)∧({}:Assume).holds prog (lone (Frame.enter prog f i.args .normal) [] (w.forCall tape i)))
  (T:∀(main:Side) (_:∀S,main.ok S→∃Fin,S=Mn prog Fin) (_:main.b=true) (h:Hp) (nums:List Int) (lv:Value) (Eg:TypeId) (zg:Nat×Nat) (_:Sl h fH lv nums) (_:h 0=some (.cells #[Ur qM] Eg zg)) (_:h.z 0),QE prog main f #[lv] h (.bool true)):
  ReturnsInLeavingWide {} Go.Proofs.Tryz.checked os f .any (fun w args=>(s.pre enc prog fn [] false w args∧laidMetH prog J9 w)∧sizedMet enc prog fn (OpenSpec.ofChange s) false w args) (s.post enc prog fn false true false false):=by
 refine returnsInLeavingWide_of_good (C:=Go.Proofs.Tryz.checked) afH started witness ?_
 intro w tape i _ _ _ hok hpre _
 obtain⟨_,_,_,fn',hfn',_,_,_,_,hval0⟩:=hok
 have e:fn'=fn:=Option.some.inj (hfn'.symm.trans hfn)
 subst e
 obtain⟨⟨⟨ds,gs,before,hw,-⟩,hx⟩,-⟩:=hpre
 have hW:=DataW.Whole.of_heap (w':=w.forCall tape i) (by rfl) hw
 have hL:laidMetH prog J9 (w.forCall tape i):=Ld (by rfl) hx
 generalize w.forCall tape i=W at*
 have hval:∀(j:Nat) t v,fn'.params[j]? =some t→i.args[j]? =some v→Value.okWide prog W .any w.heap.size t v:=hval0
 have hW':=hW
 obtain⟨p,q,hA0,hV,rfl,_,_⟩:=hW
 have hA:DataW.TrodAll enc prog W 0 (fun _=>true) true fn'.params.toList i.args.toList ds p:=hA0
 rw[hp]at hA
 rw[hpa]at hval
 obtain⟨v0,d0,ha,rfl,h0⟩:=trodAll_one hA
 have hargs:i.args= #[v0]:=by simpa using ha
 rw[hargs]at hval hW'⊢
 rw[hv]at hV
 obtain⟨rfl,rfl⟩:=trodVars_none hV
 simp only[List.append_nil]at hW'
 have hlt:∀x∈p,x.block<W.heap.size:=fun x hx=>by simpa using hW'.lt x hx
 obtain⟨a0,len,cap,rfl⟩:=okWide_slice EX (hval 0 nS v0 rfl rfl)
 obtain⟨E,z,hg⟩:=aaH hL
 have hsl:∃nums,Sl (atStart W) fH (.slice a0 len cap) nums:=by
  obtain⟨fuel,hf⟩:=h0
  rcases open_ints EX VX VY hf with⟨hcs,_⟩ | ⟨a,len',cap',zs,hcs,_,hl,hm,hz,_,hcell,_⟩
  ·simp[Value.cells]at hcs
   obtain⟨rfl,rfl,rfl⟩:=hcs
   exact⟨[],.nil⟩
  ·simp[Value.cells]at hcs
   obtain⟨rfl,rfl,rfl⟩:=hcs
   simp only[if_true]at hz
   exact⟨zs.take len,Sl.atStart (by omega) hcell⟩
 obtain⟨nums,hsl⟩:=hsl
 have hgs:atStart W 0=some (.cells #[Ur qM] E z):=ku.2 ⟨hg,rfl⟩
 obtain⟨M,last,o,w',t',h1,h2,h3,h4⟩:=QE.run hinit (T (GI prog (tZ prog fun v _=>v= .bool true)) (fun S h=>⟨_,h⟩) rfl (atStart W) nums _ E z hsl hgs ⟨_,hg,rfl⟩)
 refine⟨M,last,o,w',t',h1,h2,h3,h4.mono fun v hF=>?_⟩
 obtain⟨rfl,hk⟩:=hF
 have hb:=hk.below
 refine ChangeSpec.post_blind ⟨[d0],[],p,[],p,[],hW',?_,?_,?_,hb.frame _,fun h=>by cases h⟩
 ·have hrl:Value.resultList fn'.resultTypes.size (.bool true)=[.bool true]:=by rw[hrs];rfl
  rw[List.append_nil,hs,hrl,hr];exact trodAll_mk1 (shut_bool aHe true)
 ·rw[List.append_nil,hs,hp]
  exact trodAll_mk1 (Below.trod YR (by kernel_rfl) (of_decide_eq_true (by kernel_rfl)) h0 hb hlt)
 ·rw[List.append_nil,hs,hv];rfl
end
theorem VZ(Lk:Looks){p:Pinned}{s:OpenSpec}{c:OpenClaim}(al:List (List PathCond))(kinds:List LaidKind)(tests:Bool)(har:Bool×String)(lk:Bool)
  (hc:c.holds p s) (hal:∀D∈al,(c.withDomain D).holds p s) (hw:c.wfByText s=true) (hwal:∀D∈al,(c.withDomain D).wfByText s=true)
  (htie:c.laidByTextAt Lk p kinds tests)
  (hst:c.start= .entering) (hnb:c.noBlocks=false∧c.again=false) (hm:p.checked.prog.mainIs=some (har.1,har.2.toList)) (hn:(!har.1&&har.2.isEmpty&& !lk)=false)
  (hl:∀f fn,p.checked.prog.funcNamed c.func=some f→p.checked.prog.funcs[f]? =some fn→lk=p.checked.prog.looks []∧∀(j:Nat) t,fn.params[j]? =some t→p.checked.prog.wantsStandIn t=false)
  (hg:true=c.goesBy p.checked.prog):
  Claim7.holds p (.plain s) {stood:={row:=c,standIns:=[],harness:=har,looks:=lk},kinds:=[],alts:=al,goes:=true,laidByText:=true,laidKinds:=kinds,laidTests:=tests,laidLooks:=Lk}:=by
 have h6:∀r:OpenClaim,Claim7.isSixth {stood:={row:=r,standIns:=[],harness:=har,looks:=lk},kinds:=[]}=false:=fun r=>by simpa[Claim7.isSixth]using hn
 refine⟨Claim7.tied_new_at Lk kinds tests (Claim7.new_of_sixth hc har lk hst hnb hm (h6 c) hl) hw,fun D hD=>?_,htie,(fun h=>by cases h),hg⟩
 exact Claim7.tied_new_at Lk kinds tests (Claim7.new_of_sixth (hal D hD) har lk hst hnb hm (h6 _) hl) (hwal D hD)

end Go.aS
