/- The right plans that begin so. Conditions: none; over the given program. (And 12 texts more.) -/
import Derived.Test.YtahkljmgmgacjabGreatDoorR06
set_option linter.unusedVariables false
set_option linter.unusedSimpArgs false
set_option linter.unusedSectionVars false

/- The right plans that begin so. Conditions: none; over the given program. -/
namespace Go.aS
set_option maxRecDepth 100000
set_option maxHeartbeats 4000000
def Fin2{σ:Type}(J K:σ→eG→Prop)(r:σ×Bool)(B:eG):Prop:=match r with | (s,true)=>J s B | (s,false)=>K s B
theorem aDE{σ X Y:Type}(step:σ→Y→σ×Bool)(g:X→List Y):∀(xs:List X) (s:σ),match(runs (BN (fun s b=>(runs step s (g b)).1) (fun s b=>if(runs step s (g b)).2 then none else some Exit.ret)) (s,none) xs).1 with
    | (s',none)=>runs step s (xs.flatMap g)=(s',true)
    | (s',some e)=>e= .ret∧runs step s (xs.flatMap g)=(s',false)
  | [],s=>rfl
  | x::xs,s=>by
    rw[List.flatMap_cons,IW]
    obtain⟨⟨s',b⟩,hb⟩:∃r,runs step s (g x)=r:=⟨_,rfl⟩
    cases b with
    | true=>
      have h1:(runs (BN (fun s b=>(runs step s (g b)).1) (fun s b=>if(runs step s (g b)).2 then none else some Exit.ret)) (s,none) (x::xs))=runs (BN (fun s b=>(runs step s (g b)).1) (fun s b=>if(runs step s (g b)).2 then none else some Exit.ret)) (s',none) xs:=by
        simp only[runs,BN,hb,if_true,Option.isNone_none]
      rw[h1,hb]
      exact aDE step g xs s'
    | false=>
      have h1:(runs (BN (fun s b=>(runs step s (g b)).1) (fun s b=>if(runs step s (g b)).2 then none else some Exit.ret)) (s,none) (x::xs)).1=(s',some Exit.ret):=by
        simp[runs,BN,hb]
      rw[h1,hb]
      exact⟨rfl,rfl⟩

abbrev fromV(bs bp yb bf:Nat):Value:=.func (.func aw0) #[] #[.pointer (some ⟨bs,0,none⟩),.pointer (some ⟨bp,0,none⟩),.pointer (some ⟨yb,0,none⟩),.pointer (some ⟨bf,0,none⟩)]
abbrev doV(bf b5:Nat):Value:=.func (.func awG) #[] #[.pointer (some ⟨bf,0,none⟩),.pointer (some ⟨b5,0,none⟩)]

theorem aL1(main:Side)(h:Hp)(fv:Value)(bf b5 k:Nat)(Ef E5:TypeId)(zf z5:Nat×Nat)(F:eG)(R:Value→eG→Prop)(hf1:one fv=true)(hk:k≤4)(hbf:h bf=some (.cells #[fv] Ef zf))(hb5:h b5=some (.cells #[I k] E5 z5))
    (H:∀h',Ext h h'→gZ prog main fv [I ((k+1:Nat):Int)] h' F R):gZ prog main (doV bf b5) [] h F R:=by
  refine gZ.zh (f:=awG) (fi:=[]) (ca:=[.pointer (some ⟨bf,0,none⟩),.pointer (some ⟨b5,0,none⟩)]) ?_
  refine dV.aG azU rfl (by show 2≤7;decide) [(0,.pointer (some ⟨bf,0,none⟩)),(1,.pointer (some ⟨b5,0,none⟩))] ⟨rfl,rfl,trivial⟩ ?_
  refine W.seq<|W.region rfl<|agb rfl rfl rfl<|pq<|W.seq<|W.region rfl ?_
  refine agX rfl ?_
  refine agX rfl ?_
  refine agW (Yv.eq (Zi rfl rfl rfl) (show I _=I ((k+1:Nat):Int) by congr 1)) rfl ?_
  refine cgv .all (fun h2 hE hL=>H h2 hE) (fun v B hv=>?_)
  refine agb rfl rfl rfl<|pq<|W.ret ?_
  exact mg (vs:=[v]) hv

theorem aJ5(main:Side)(fs:List Fl)(ss:List St)(may:May)(vf vs mv yv:Value)(bs bp yb bf:Nat)(Es Ey Ef Eg:TypeId)(zs zy zf zg:Nat×Nat)(hall:Ju fs ss)(hm1:one mv=true)(hy1:one yv=true){σ:Type}(nx:List Be→σ→Prop)(step:σ→List Be→σ×Bool)(J K:σ→eG→Prop):
    ∀(m k:Nat) (p:List Be) (h:Hp) (s:σ) (A:eG),k+m=ss.length→axb fs ss p→Sl h Fl.row vf fs→Sl h St.row vs ss→aFZ main mv may h→
      h bs=some (.cells #[vf,vs,mv] Es zs)→h yb=some (.cells #[yv] Ey zy)→h bf=some (.cells #[fromV bs bp yb bf] Ef zf)→h 0=some (.cells #[Ur qM] Eg zg)→
      Yld prog main yv h adu nx step J K→LD nx step s (rights fs ss may m k p)→J s A→
      dV prog main aw0 #[I k,.pointer (some ⟨bs,0,none⟩),.pointer (some ⟨bp,0,none⟩),.pointer (some ⟨yb,0,none⟩),.pointer (some ⟨bf,0,none⟩)] h (A++[(bp,.cells (flat Be.row p).toArray zl (0,0))])
        (fun v A'=>v= .bool (runs step s (rights fs ss may m k p)).2∧∃B,Fin2 J K (runs step s (rights fs ss may m k p)) B∧Sb (B++[(bp,.cells (flat Be.row p).toArray zl (0,0))]) A'):=by
  intro m
  induction m with
  | zero=>
    intro k p h s A hk hp hf hs hmay hbs hyb hbf hg hy hal hJ
    have hsz:=ay0 hp.ok
    have hn4:=hall.ns
    obtain⟨a,cap,rfl⟩:=hf.dA
    obtain⟨a',cap',rfl⟩:=hs.dA
    refine dV.perm (A:=(bp,.cells (flat Be.row p).toArray zl (0,0))::A) (List.perm_append_comm (l₁:=[_])) ?_
    refine dV.aG ayg rfl (by show 5≤35;decide) [(0,I k),(1,.pointer (some ⟨bs,0,none⟩)),(2,.pointer (some ⟨bp,0,none⟩)),(3,.pointer (some ⟨yb,0,none⟩)),(4,.pointer (some ⟨bf,0,none⟩))] ⟨rfl,rfl,rfl,rfl,rfl,trivial⟩ ?_
    refine W.seq<|W.region rfl ?_
    refine Ops.box (fun mZ=>?_)
    refine Ops.new (fun yC=>?_)
    refine pq<|W.seq<|W.seq<|W.region rfl ?_
    refine agX rfl ?_
    refine agY rfl ?_
    refine agY rfl ?_
    refine agY rfl ?_
    refine agX rfl ?_
    refine agW (dM rfl rfl) rfl ?_
    refine agW (IJ rfl rfl rfl) rfl ?_
    refine pq ?_
    refine W.bC rfl (fun c14=>?_) (fun c14=>?_)
    · refine W.seq<|W.region rfl ?_
      refine agY rfl ?_
      refine agW (zi (vs:= #[.slice a fs.length cap,.slice a' ss.length cap']) rfl rfl (.inl hbs) (by show 0+0+2≤3;decide) rfl) rfl ?_
      first | refine ag2 rfl ?_ | refine agW (ady rfl rfl) rfl ?_
      refine cp (fun h' hE hL=>aHo _ h' fs ss p _ _ Eg zg (hf.ext hE) (hs.ext hE) hall hp (hE.1 _ _ hg)) ?_
      refine agW (aJ2 rfl rfl) rfl ?_
      refine qm rfl rfl rfl ?_
      refine Ops.RV (fun aJ6=>?_) (fun aJ6=>?_)
      · refine Ops.no ?_
        refine Ops.no ?_
        refine Ops.no ?_
        refine agW (dG rfl rfl rfl) rfl ?_
        refine Ops.yG ?_
        refine pq<|W.ret<|aY ?_
        first
        | (
           refine QJ (hv:=rSc zJ) ⟨?_,B,?_,?_⟩
           · rw[hri]
             obtain⟨⟨s',b⟩,hst⟩:∃r,step s p=r:=⟨_,rfl⟩
             cases b <;>simp only[runs,hst] <;>rfl
           · rw[hri]
             revert hBJ
             obtain⟨⟨s',b⟩,hst⟩:∃r,step s p=r:=⟨_,rfl⟩
             cases b <;>simp only[runs,hst,Fin2] <;>exact id
           · exact(Sb.dF List.perm_append_comm).trans (.skip rfl (.skip rfl (.cons hsb))))
        | (
           have hin:(az1 fs ss p).isNone=false:=by simpa using aJ6
           have hri:rights fs ss may 0 k p=[]:=by simp only[rights,hin,Bool.false_eq_true,if_false]
           refine QJ (hv:=rSc zJ) ⟨by rw[hri];rfl,A,by rw[hri];exact hJ,?_⟩
           exact(Sb.dF List.perm_append_comm).trans (.skip rfl (.skip rfl .refl)))
      · refine oq (iQ rfl rfl) rfl (ak rfl rfl rfl) rfl rfl ?_
        first | refine oq (Bf rfl rfl) rfl (ak rfl rfl rfl) rfl rfl ?_ | refine oq (zi rfl rfl) rfl (ak rfl rfl rfl) rfl rfl ?_ | refine oq (ady rfl rfl) rfl (ak rfl rfl rfl) rfl rfl ?_
        have hin:(az1 fs ss p).isNone=true:=by simpa using aJ6
        have hri:rights fs ss may 0 k p=[p]:=by simp only[rights,hin,if_true]
        refine cgv (.tail (.tail (.tail .all))) (fun h2 hE hL=>hy h2 hE s p A (hal.far (rest:=[]) (by rw[hri];exact .zero)) hJ) (fun r B1 hr1=>?_)
        obtain⟨rfl,B,hsb,hBJ⟩:=hr1
        refine agW (iH rfl rfl rfl) rfl ?_
        refine Ops.yG ?_
        refine pq<|W.ret<|aY ?_
        first
        | (
           refine QJ (hv:=rSc zJ) ⟨?_,B,?_,?_⟩
           · rw[hri]
             obtain⟨⟨s',b⟩,hst⟩:∃r,step s p=r:=⟨_,rfl⟩
             cases b <;>simp only[runs,hst] <;>rfl
           · rw[hri]
             revert hBJ
             obtain⟨⟨s',b⟩,hst⟩:∃r,step s p=r:=⟨_,rfl⟩
             cases b <;>simp only[runs,hst,Fin2] <;>exact id
           · exact(Sb.dF List.perm_append_comm).trans (.skip rfl (.skip rfl (.cons hsb))))
        | (
           have hin:(az1 fs ss p).isNone=false:=by simpa using aJ6
           have hri:rights fs ss may 0 k p=[]:=by simp only[rights,hin,Bool.false_eq_true,if_false]
           refine QJ (hv:=rSc zJ) ⟨by rw[hri];rfl,A,by rw[hri];exact hJ,?_⟩
           exact(Sb.dF List.perm_append_comm).trans (.skip rfl (.skip rfl .refl)))
    · exact absurd c14 (by omega)
  | succ m ih=>
    intro k p h s A hk hp hf hs hmay hbs hyb hbf hg hy hal hJ
    have hsz:=ay0 hp.ok
    have hn4:=hall.ns
    have hkl:k<ss.length:=by omega
    obtain⟨a,cap,rfl⟩:=hf.dA
    obtain⟨a',cap',rfl⟩:=hs.dA
    obtain⟨g,hg'⟩:∃g:Be→List (List Be),g=fun b=>if prune fs ss (p.set k b) b then[]else rights fs ss may m (k+1) (p.set k b):=⟨_,rfl⟩
    have hri:rights fs ss may (m+1) k p=(jc fs ss may k).flatMap g:=by rw[hg'];rfl
    refine dV.perm (A:=(bp,.cells (flat Be.row p).toArray zl (0,0))::A) (List.perm_append_comm (l₁:=[_])) ?_
    refine dV.aG ayg rfl (by show 5≤35;decide) [(0,I k),(1,.pointer (some ⟨bs,0,none⟩)),(2,.pointer (some ⟨bp,0,none⟩)),(3,.pointer (some ⟨yb,0,none⟩)),(4,.pointer (some ⟨bf,0,none⟩))] ⟨rfl,rfl,rfl,rfl,rfl,trivial⟩ ?_
    refine W.seq<|W.region rfl ?_
    refine Ops.box (fun mZ=>?_)
    refine Ops.new (fun yC=>?_)
    refine pq<|W.seq<|W.seq<|W.region rfl ?_
    refine agX rfl ?_
    refine agY rfl ?_
    refine agY rfl ?_
    refine agY rfl ?_
    refine agX rfl ?_
    refine agW (dM rfl rfl) rfl ?_
    refine agW (IJ rfl rfl rfl) rfl ?_
    refine pq ?_
    refine W.bC rfl (fun c14=>?_) (fun c14=>?_)
    · exact absurd c14 (by omega)
    · refine W.skip<|aA<|W.seq<|W.seq<|W.region rfl ?_
      first | refine ag2 rfl ?_ | refine agW (ady rfl rfl) rfl ?_
      refine agX rfl ?_
      refine c0 (fun h' hE hL=>aFr _ h' _ _ mv k rfl rfl hm1) (fun v A' hv=>?_)
      obtain⟨b2,b3,rfl,rfl⟩:=hv
      refine pq<|W.block ?_
      refine W.perm (F':=((yC,.cells #[.bool false] RS (0,0))::(bp,.cells (flat Be.row p).toArray zl (0,0))::A)++[(b3,.cells #[I k] dL (0,0)),(b2,.cells #[.slice a fs.length cap,.slice a' ss.length cap',mv] aBV (0,0)),(mZ,.cells #[I k] dL (0,0))]) ?_ ?_
      · refine(List.perm_append_comm).trans ?_
        exact((List.Perm.swap _ _ _).cons _).cons _
      refine W.aFY (σ:=σ) (X:=Be) (enc:=Be.val) (xs:=jc fs ss may k) rfl rfl rfl (fun s b=>(runs step s (g b)).1) (fun s b=>if(runs step s (g b)).2 then none else some Exit.ret)
        (fun b t=>∃pre post,jc fs ss may k=pre++b::post∧runs step s (pre.flatMap g)=(t,true)) (fun s A'=>∃B,A'=(yC,.cells #[.bool false] RS (0,0))::(bp,.cells (flat Be.row p).toArray zl (0,0))::B∧J s B) (fun s A'=>∃B,A'=(yC,.cells #[.bool false] RS (0,0))::(bp,.cells (flat Be.row p).toArray zl (0,0))::B∧K s B) s .head ⟨A,rfl,hJ⟩
        (fun h' hE hL=>aDN _ h' fs ss may k _ _ mv b2 b3 _ _ _ _ (hf.ext hE) (hs.ext hE) hall hkl (hmay.ext hE) (hL b2 _ (by repeat(first | exact List.Mem.head _ | apply List.Mem.tail))) (hL b3 _ (by repeat(first | exact List.Mem.head _ | apply List.Mem.tail)))) (fun s p' e he=>?_) (fun pre b post s' e hr=>?_) ?_ ?_
      · split at he
        · cases he
        · cases he;rfl
      · have:=aDE step g pre s
        rw[hr]at this
        exact⟨pre,post,e,this⟩
      · rintro t b A1 ⟨pre,post,hpre,hrun⟩ ⟨B,rfl,hJt⟩ l h1- -
        have hb:b∈jc fs ss may k:=by rw[hpre];simp
        refine W.region rfl ?_
        refine Ops.new (fun Vo=>?_)
        first | refine Ops.jP ?_ | refine Ops.nY ?_
        refine Ops.nil ?_
        refine⟨rfl,rfl,fun h0 hE0 hL0=>?_⟩
        have h5:h0 mZ=some (.cells #[I k] dL (0,0)):=hL0 _ _ (by repeat(first | exact List.Mem.head _ | apply List.Mem.tail))
        have hbs':=hE0.1 _ _ hbs
        have aNF:=hE0.1 _ _ hbf
        clear hL0
        refine W.block<|W.seq<|W.region rfl ?_
        first | refine ag2 rfl ?_ | refine agW (ady rfl rfl) rfl ?_
        refine agX rfl ?_
        first | refine ag2 rfl ?_ | refine agW (ady rfl rfl) rfl ?_
        refine agW (ayq rfl rfl rfl) rfl ?_
        refine Ops.perm (F':=(B++[(bp,.cells (flat Be.row p).toArray zl (0,0))])++[(Vo,.cells #[I b.fl,I b.day] aw3 (0,0)),(yC,.cells #[.bool false] RS (0,0))]) ?_ ?_
        · refine(List.perm_append_comm).trans ?_
          exact((List.perm_append_comm (l₁:=B) (l₂:=[_])).cons _).cons _
        refine cg .head (fun h2 hE hL=>aJ3 _ h2 fs ss p k b _ _ mv (doV bf mZ) bp B hm1 (hf.ext (hE0.trans hE)) (hs.ext (hE0.trans hE)) hall hp hkl (awZ hall hkl hb) (fun v B'=>v= .bool (runs step t (g b)).2∧Fin2 J K (runs step t (g b)) B') ?_ ?_) (fun v A2 hv=>?_)
        · intro hpr
          have:g b=[]:=by rw[hg'];simp only[hpr,if_true]
          rw[this]
          exact⟨rfl,hJt⟩
        · intro hpr h3 e3
          have hgb:g b=rights fs ss may m (k+1) (p.set k b):=by rw[hg'];simp only[hpr,Bool.false_eq_true,if_false]
          have hE3:=(hE0.trans hE).trans e3
          refine(aL1 _ h3 (fromV bs bp yb bf) bf mZ k _ _ _ _ _ _ rfl (by omega) (hE3.1 _ _ hbf) (e3.1 _ _ (hE.1 _ _ h5)) fun h4 e4=>?_).mono (R:=fun v A'=>v= .bool (runs step t (rights fs ss may m (k+1) (p.set k b))).2∧∃B,Fin2 J K (runs step t (rights fs ss may m (k+1) (p.set k b))) B∧Sb (B++[(bp,.cells (flat Be.row (p.set k b)).toArray zl (0,0))]) A') ?_
          · have hE4:=hE3.trans e4
            exact gZ.zh (fi:=[]) (args:=[_]) (ca:=[_,_,_,_]) (ih (k+1) (p.set k b) h4 t B (by omega) (ax4 hp hkl (awZ hall hkl hb)) (hf.ext hE4) (hs.ext hE4) (hmay.ext hE4) (hE4.1 _ _ hbs) (hE4.1 _ _ hyb) (hE4.1 _ _ hbf) (hE4.1 _ _ hg)
              (hy.sub hE4 fun _ _ q=>q) (fun pre' q post' s' e' hr'=>hal (pre.flatMap g++pre') q (post'++post.flatMap g) s' (by rw[hri,hpre,List.flatMap_append,List.flatMap_cons,hgb,e'];simp) (by rw[IW,hrun];exact hr')) hJt)
          · rintro v A' ⟨rfl,B',h1',h2'⟩
            rw[hgb]
            exact⟨_,rfl,B',⟨rfl,h1'⟩,h2'⟩
        obtain⟨B',⟨rfl,hfin⟩,hsb⟩:=hv
        refine Ops.sb (F':=(B'++[(bp,.cells (flat Be.row p).toArray zl (0,0))])++_) (hsb.app .refl) ?_
        refine Ops.perm (F':=(Vo,.cells #[I b.fl,I b.day] aw3 (0,0))::(yC,.cells #[.bool false] RS (0,0))::(bp,.cells (flat Be.row p).toArray zl (0,0))::B') ?_ ?_
        · refine List.Perm.trans ?_ (List.perm_append_comm)
          exact((List.perm_append_comm (l₁:=[_]) (l₂:=B')).cons _).cons _
        refine agW (xU rfl rfl) rfl ?_
        refine pq ?_
        refine W.cond rfl (fun c34=>?_) (fun c34=>?_)
        · refine W.seq<|W.region rfl ?_
          refine Ops.yG ?_
          refine pq<|W.ret<|cZ ?_
          have hst:=adS c34
          refine⟨rfl,by rw[hst];rfl,_,?_,.skip rfl .refl⟩
          rw[hst]
          refine⟨B',rfl,?_⟩
          obtain⟨s',hs'⟩:=aAs hst
          rw[hs']at hfin⊢
          exact hfin
        · refine W.skip<|dI ?_
          have hst:=adT c34
          refine⟨rfl,by rw[hst];rfl,_,?_,.skip rfl .refl⟩
          rw[hst]
          refine⟨B',rfl,?_⟩
          obtain⟨s',hs'⟩:=aAs hst
          rw[hs']at hfin⊢
          exact hfin
      · intro s' e A2 he hA d
        have hfl:=aDE step g (jc fs ss may k) s
        rw[he]at hfl
        rcases e with _ | e
        case some=>
          obtain⟨rfl,hfl⟩:=hfl
          obtain⟨B,rfl,hK⟩:=hA
          refine cZ<|aY ?_
          refine lvm (hl:=At.head) (QJ (hv:=rSc zJ) ⟨?_,B,?_,?_⟩)
          · rw[hri,hfl];rfl
          · rw[hri,hfl];exact hK
          · refine(Sb.dF List.perm_append_comm).trans ?_
            exact .skip rfl (.skip rfl (.cons (.right .refl (.cons rfl (.cons rfl (.cons rfl .nil))))))
        obtain⟨B,rfl,hJ2⟩:=hA
        refine dI<|aA<|W.seq<|W.region rfl ?_
        refine Ops.yG ?_
        refine pq<|W.ret ?_
        refine lvm (hl:=At.head) (QJ (hv:=rSc zJ) ⟨?_,B,?_,?_⟩)
        · rw[hri,hfl];rfl
        · rw[hri,hfl];exact hJ2
        · refine(Sb.dF List.perm_append_comm).trans ?_
          exact .skip rfl (.skip rfl (.cons (.right .refl (.cons rfl (.cons rfl (.cons rfl .nil))))))
end Go.aS

/- Searches: the right plans, handed out; whether there is one. Conditions: none; over the given program. -/
namespace Go.aS
set_option maxRecDepth 100000
set_option maxHeartbeats 4000000
theorem aL2{x y z:Nat×Obj}{A:eG}:((A++[y])++[x,z]).Perm (x::y::z::A):=
 (List.perm_append_comm).trans (((List.Perm.cons _ (List.perm_append_comm (l₁:=A) (l₂:=[_]))).trans (List.Perm.swap _ _ _)).cons _)
abbrev aI8(bb bs:Nat):Value:=.func (.func axa) #[] #[.pointer (some ⟨bb,0,none⟩),.pointer (some ⟨bs,0,none⟩)]
theorem aGz(main:Side)(h:Hp)(vf vs mv vl:Value)(h1:one vf=true)(h2:one vs=true)(h3:one mv=true)(h4:one vl=true):dV prog main azl #[aDM vf vs mv,vl] h [] (fun v A=>∃bb bs,v=aI8 bb bs∧A=[(bb,.cells #[vl] aHh (0,0)),(bs,.cells #[vf,vs,mv] aBV (0,0))]):=by
 have hc:vl.cells= #[vl]:=OO h4
 refine dV.aG aBh rfl (by show 2≤6;decide) [(0,aDM vf vs mv),(1,vl)] ⟨rfl,rfl,trivial⟩ ?_
 refine W.seq<|W.region rfl ?_
 refine Ops.box (fun yR=>?_)
 refine Ops.box (fun uU=>?_) rfl rfl hc
 refine agb rfl rfl rfl<|pq<|W.seq<|W.region rfl ?_
 refine agW (ayq rfl rfl rfl) rfl ?_
 refine agb rfl rfl rfl<|pq<|W.ret ?_
 exact mg ⟨_,_,rfl,rfl⟩

def Pv(fs:List Fl)(ss:List St)(may:May)(l:List Be):List (List Be):=rights fs ss may (ss.length-l.length) l.length (aw5 l)
theorem aEz(main:Side)(h:Hp)(fs:List Fl)(ss:List St)(may:May)(l:List Be)(vf vs mv vl:Value)(bb bs:Nat)(Eb Es Eg:TypeId)(zb zs zg:Nat×Nat)(hf:Sl h Fl.row vf fs)(hs:Sl h St.row vs ss)(hl:Sl h Be.row vl l)(hm1:one mv=true)(hall:Ju fs ss)(hll:l.length≤ss.length)(hp:axb fs ss (aw5 l))(hm:aFZ main mv may h)
  (hbb:h bb=some (.cells #[vl] Eb zb)) (hbs:h bs=some (.cells #[vf,vs,mv] Es zs)) (hg:h 0=some (.cells #[Ur qM] Eg zg)):Iter prog main (aI8 bb bs) adu (Pv fs ss may l) h:=by
 intro h' hE0 yv hy1 σ nx step J K hy s A hal hJ
 have h4:l.length≤4:=by have:=hall.ns;omega
 have aNG:=hE0.1 _ _ hbb
 have hbs':=hE0.1 _ _ hbs
 have hsz:=ay0 hp.ok
 have hon:ones (flat Be.row (aw5 l)).toArray.toList=true:=aza
 obtain⟨a2,cap2,rfl⟩:=hl.dA
 refine gZ.zh (f:=axa) (fi:=[]) (ca:=[.pointer (some ⟨bb,0,none⟩),.pointer (some ⟨bs,0,none⟩)]) ?_
 refine dV.aG aAH rfl (by show 3≤13;decide) [(0,yv),(1,.pointer (some ⟨bb,0,none⟩)),(2,.pointer (some ⟨bs,0,none⟩))] ⟨rfl,rfl,rfl,trivial⟩ ?_
 refine W.seq<|W.region rfl ?_
 refine Ops.box (fun uU=>?_) rfl rfl (OO hy1)
 refine pq<|W.seq<|W.region rfl ?_
 refine agX rfl ?_
 refine cp (fun h' hE hL=>aIe _ h' _ _ (hl.ext (hE0.trans hE)) h4) ?_
 refine Ops.new (fun wC=>?_)
 first | refine Ops.jP ?_ | refine Ops.nY ?_
 refine pq<|W.seq<|W.region rfl ?_
 refine Ops.new (fun mZ=>?_)
 refine pq<|W.seq<|W.region rfl ?_
 refine agW (ayq rfl rfl rfl) rfl ?_
 refine Ops.yG ?_
 refine pq<|W.region rfl ?_
 refine agX rfl ?_
 refine agX rfl ?_
 refine agW (dM rfl rfl) rfl ?_
 refine Ops.perm aL2 ?_
 refine cgv .head (fun h2 hE hL=>gZ.zh (fi:=[]) (args:=[_]) (ca:=[_,_,_,_]) (aJ5 _ fs ss may _ _ mv yv bs wC uU mZ Es _ _ Eg zs _ _ zg hall hm1 hy1 nx step J K (ss.length-l.length) l.length (aw5 l) h2 s A (by omega) hp (hf.ext (hE0.trans hE)) (hs.ext (hE0.trans hE)) (hm.ext (hE0.trans hE)) (hE.1 _ _ hbs') (hL _ _ (.tail _ (.head _))) (hL _ _ (.head _)) ((hE0.trans hE).1 _ _ hg) (hy.sub hE fun _ _ q=>q) hal hJ)) (fun v B hv=>?_)
 obtain⟨rfl,B',hfin,hsb⟩:=hv
 refine Ops.nil ?_
 refine mg ⟨B',?_,hfin⟩
 refine Sb.right ?_ (.cons rfl (.cons rfl .nil))
 exact Sb.trans (.right .refl (.cons rfl .nil)) hsb

theorem aJ7(main:Side)(h:Hp)(k:Int):Pu prog main azT #[I k] h (.tuple #[.bool true,.bool true]):=by
 refine dV.aG aE4 rfl (by show 1≤4;decide) [(0,I k)] ⟨rfl,trivial⟩ ?_
 refine W.seq<|W.region rfl<|agb rfl rfl rfl<|agb rfl rfl rfl<|pq<|W.seq<|W.region rfl<|agb rfl rfl rfl<|agb rfl rfl rfl ?_
 refine pq<|W.ret ?_
 exact uZ rfl
def azx:May:=fun _=>(true,true)
theorem aI9(main:Side)(h:Hp):aFZ main (.func (.func azT) #[] #[]) azx h:=fun h' _ k _=>gZ.zh (fi:=[]) (args:=[_]) (ca:=[]) (aJ7 main h' k)
theorem azf{fs:List Fl}{ss:List St}(hn:1≤fs.length):axb fs ss (aw5 []):=by
 refine⟨⟨rfl,fun b hb=>?_⟩,fun b hb=>?_,fun i hi=>?_⟩
 ·have:b=TL:=by simpa[aw5]using hb
  subst this;simp[TL]
 ·have:b=TL:=by simpa[aw5]using hb
  subst this;simp[TL];omega
 ·simp only[qw,aw5,List.getD]
  rcases Nat.lt_or_ge i 4 with h | h
  ·rcases(by omega:i=0∨i=1∨i=2∨i=3)with rfl | rfl | rfl | rfl <;>simp[TL]
  ·simp[List.getElem?_eq_none,h,TL]

end Go.aS

/- Scopes of labels; slices beside nil. Conditions: none; over any program. -/
namespace Go.aS
theorem adz{P:Program}{t E:TypeId}[TD P t (.slice E)]{h:Hp}{F:eG}{β:Type}{f:Bool→Sem β}{Q:β→eG→Prop}{a:Option Addr}{n c:Nat}(d:Nat):tr P h ((Op.equalIn (d+1) t (.slice a n c) (.slice none 0 0)).bind f) F Q=tr P h (f a.isNone) F Q:=by
 cases a with
 | none=>simp only[Op.equalIn,bind_eq,gq,bind_assoc,bind_pure,aC]
 | some a=>simp only[Op.equalIn,bind_eq,gq,bind_assoc,bind_pure,aC];rfl
theorem aae{x:Cx}{ρ:Env}{S:eG→Prop}{o:Oper}{t t' E:TypeId}{y:Operand}{a:Option Addr}{n c:Nat}(ho:o.op= .binOp .eql t y (.const (.slice none 0 0)) t')[TD x.P t (.slice E)](hy:ev ρ y=some (.slice a n c)):Yv x S ρ o (.bool a.isNone):=fun e he F hF h' hE=>by
 have hc:e (.const (.slice none 0 0))= .slice none 0 0:=he _ _ rfl
 have hg:eqGuard .eql t y (.const (.slice none 0 0)) (.slice a n c) (.slice none 0 0)= .pure ():=by
  simp[eqGuard,gq]
 obtain⟨dd,hdd⟩:=CU t (.slice a n c) (.slice none 0 0)
 simp only[execOp,ho,he y _ hy,hc,hg,binOp,hdd,bind_eq,gq,bind_assoc,bind_pure,adz]
 exact⟨rfl,rfl⟩
end Go.aS

/- Late. Conditions: none; over the given program. -/
namespace Go.aS
set_option maxRecDepth 100000
set_option maxHeartbeats 4000000
theorem aDO:∀{fs:List Fl} {f:Fl},aw6 fs=0→f∈fs→awO f=0
 | [],_,_,h=>by cases h
 | g::fs,f,h,hm=>by
  simp only[aw6]at h
  split at h
  ·rename_i h1
   rcases List.mem_cons.1 hm with rfl | hm
   ·exact h1
   ·exact aDO h hm
  ·rename_i h1;exact absurd h h1
theorem aI_{f:Fl}(h:awO f=0):1≤f.pl∧f.pl≤9∧1≤f.lo∧f.lo≤f.hi∧f.hi≤6∧0≤f.co∧f.co≤9:=by
 unfold awO at h
 split at h
 ·cases h
 split at h
 ·cases h
 split at h
 ·cases h
 ·rename_i h1 h2 h3
  simp only[outs]at h1 h3
  omega
theorem aFJ{fs:List Fl}{ss:List St}(h:Y2 fs ss=0):Ju fs ss:=by
 obtain⟨h1,h2,h3,h4,h5⟩:=aGt h
 refine⟨⟨by omega,h2⟩,h3,fun f hf=>aI_ (aDO h4 hf),fun s hs=>?_⟩
 obtain⟨k,hk,rfl⟩:=List.mem_iff_getElem.1 hs
 have:=aId h (List.getElem?_eq_getElem hk)
 omega

end Go.aS

/- Patience. Conditions: none; over the given program. -/
namespace Go.aS
set_option maxRecDepth 100000
set_option maxHeartbeats 4000000
def aKs(lo:Int):Nat→List Int
 | 0=>[]
 | k+1=>aKs lo k++[lo+k]
def nums(lo hi:Int):List Int:=aKs lo (hi+1-lo).toNat

end Go.aS

/- Short forms for senders. Conditions: none; over any program. -/
namespace Go.aS
section
variable{x:Cx}{Q:Post}{ρ:Env}{ds:List Deferred}{F:eG}{ops:Array Oper}{i:Nat}{rest:List Nat}{ty:TypeId}{pos:String}{bK:Array Edge}{g:Option (Nat×Bool)}
theorem Ops.aHp{y:Operand}{c:Nat}{tys:Array TypeId}(H:Ops x ops rest Q ρ ({target:=.builtin .close tys ty (#[y].map fun | .const _=>true | _=>false),args:= #[.chan (some c)]}::ds) F)(hro:x.ro=none:=by rfl)(ho:cO ops.toList i=some ⟨none,.defer ⟨.builtin .close, #[y],tys⟩,ty,pos,bK,g⟩:=by rfl)(hy:ev ρ y=some (.chan (some c)):=by rfl)
  (hw:want ops ρ ⟨none,.defer ⟨.builtin .close, #[y],tys⟩,ty,pos,bK,g⟩:=by first | exact wn | exact ak rfl rfl rfl):Ops x ops (i::rest) Q ρ ds F:=
 Ops.defer (o:=⟨none,.defer ⟨.builtin .close, #[y],tys⟩,ty,pos,bK,g⟩) hro (aU ho) rfl hw rfl (fun e he=>by have e3:e y=_:=he y _ hy;simp only[resolve,List.map_toArray,List.map_cons,List.map_nil,e3,gq];rfl) H
end
theorem aFR.marked{P:Program}{c d:Nat}{h:Hp}{ds:List Deferred}{F:eG}{U:Obj→eG}(hl:At d (.deferred (some [])) F U)(H:aFR P c h ds (U (.deferred none))):aFR P c h (mark d::ds) F:=by
 obtain⟨F1,F2,e1,e2⟩:=hl.split
 show tr P h (Instr.takeDeferred d) F fun l F'=>l=[]∧aFR P c h ds F'
 simp only[Instr.takeDeferred,bind_eq,gq]
 refine⟨.deferred (some []),.inr (e1▸by simp),(fun _ _ _=>by simp),rfl,?_⟩
 refine⟨.deferred (some []),F1,F2,e1,(fun _ _ _=>by simp),rfl,rfl,?_⟩
 rw[e2]at H
 exact H

theorem aDF{X:Type}:∀(pre xs:List X),runs (BN (fun(s:List X) (_:X)=>s.tail) fun _ _=>none) (xs,none) pre=((xs.drop pre.length,none),true)
 | [],xs=>rfl
 | p::pre,xs=>by
  have h:runs (BN (fun(s:List X) (_:X)=>s.tail) fun _ _=>none) (xs,none) (p::pre)=runs (BN (fun(s:List X) (_:X)=>s.tail) fun _ _=>none) (xs.tail,none) pre:=by simp only[runs,BN,Option.isNone_none]
  rw[h,aDF pre]
  cases xs <;>simp

def Zs(h:Hp)(v:Value):Prop:=∀b off n cap,v= .slice (some ⟨b,off,none⟩) n cap→h.z b
theorem Sl.told{α:Type}{row:α→List Value}{w:Nat}[Rw row w]{h:Hp}{c:Nat}{v:Value}{l:List α}(H:Sl h row v l)(hz:Zs h v)(hn:h c=none):Sl (aDL h c) row v l:=by
 obtain⟨a,cap,rfl,hx⟩:=H
 refine⟨a,cap,rfl,fun hne=>?_⟩
 obtain⟨b,off,cc,E,fz,rfl,hb,hp⟩:=hx hne
 exact⟨b,off,cc,E,fz,rfl,aBy hn (hz _ _ _ _ rfl) hb rfl,hp⟩
theorem Zs.ext{h h':Hp}{v:Value}(H:Zs h v)(e:Ext h h'):Zs h' v:=fun b off n cap hv=>e.2 b (H b off n cap hv)

def chF(cs:List (Nat×List Value)):eG:=cs.map fun c=>(c.1,gch c.2)
def agh(c:Nat):List Value:=[.chan (some c)]
instance:Rw agh 1:=⟨fun _=>rfl,fun _=>rfl⟩

theorem JU{x:Cx}{c:Code}{Q:Post}{ρ:Env}{ds:List Deferred}{A F:eG}{α:Type}{row:α→List Value}{w:Nat}[Rw row w]{E:TypeId}{v:Value}{l:List α}(hs:Os E row v l A)
  (H:∀h',Ext x.h h'→Sl h' row v l→Zs h' v→W {x with h:=h'} c Q ρ ds F):W x c Q ρ ds (A++F):=by
 rcases hs with⟨rfl,rfl,hsh⟩ | ⟨β,cc,cap,J,rfl,rfl,h1,h2,h3,hsh⟩
 ·exact W.sb (Sb.left .refl hsh) (H x.h ⟨fun _ _ q=>q,fun _ q=>q⟩ .nil (fun b off n cap e=>by cases e))
 ·refine W.freeze (b:=β) rfl fun h' hE hb hz=>?_
  refine W.sb (F':=F) (Sb.left .refl hsh) (H h' hE (.mk hb rfl h3) (fun b off n cap e=>by cases e;exact hz))
theorem Zs.nil{h:Hp}:Zs h (.slice none 0 0):=fun b off n cap e=>by cases e

def rcO:List Value→Obj
 | []=>aBw
 | _::l=>gch l
section rules
variable{x:Cx}{Q:Post}{ρ:Env}{ds:List Deferred}{F:eG}{ops:Array Oper}{i:Nat}{rest:List Nat}{d:Tmp}{ty:TypeId}{pos:String}{bK:Array Edge}{g:Option (Nat×Bool)}
theorem Ops.aL3{ct el s' b' c:Nat}{dir:ChanDir}{z:Value}{zc:Array Value}{ch:Operand}{l:List Value}{u:Value}{U:Obj→eG}(hS:∀S,x.main.ok S→∃Fin,S=Mn x.P Fin)(hb:x.main.b=true)[TD x.P ct (.chan dir el)][TI x.P el s' b' z zc](hu:l.headD z=u)(hl:At c (gch l) F U)
  (H:Ops x ops rest Q ((d,.tuple #[u,.bool (!l.isEmpty)])::ρ) ds (U (rcO l))) (ho:cO ops.toList i=some ⟨some d,.recv ct ch true,ty,pos,bK,g⟩:=by rfl)
  (hw:want ops ρ ⟨some d,.recv ct ch true,ty,pos,bK,g⟩:=by first | exact wn | exact ak rfl rfl rfl) (hd:Nat.blt d x.n=true:=by rfl) (hch:ev ρ ch=some (.chan (some c)):=by rfl):Ops x ops (i::rest) Q ρ ds F:=by
 subst hu
 cases l with
 | nil=>exact Ops.recvDone (o:=⟨some d,.recv ct ch true,ty,pos,bK,g⟩) hS hb (aU ho) rfl hw hd hch hl H
 | cons v l=>exact Ops.recv (o:=⟨some d,.recv ct ch true,ty,pos,bK,g⟩) hS hb (aU ho) rfl hw hd hch hl H
end rules
section
variable{x:Cx}{Q:Post}{ρ:Env}{ds:List Deferred}{ops:Array Oper}{id n:Nat}{y₁ y₂ y₃:Nat×Obj}{G:eG}
theorem W.aG8(hn:ops.size=n)(H:Any x ops [y₁] n 0 Q ρ ds (y₁::G))[MO x.P]:W x (.region id ops true) Q ρ ds (y₁::G):=W.DR _ hn H
theorem W.Ap(hn:ops.size=n)(H:Any x ops [y₁,y₂] n 0 Q ρ ds (y₁::y₂::G))[MO x.P]:W x (.region id ops true) Q ρ ds (y₁::y₂::G):=W.DR _ hn H
theorem W.aIP(hn:ops.size=n)(H:Any x ops [y₁,y₂,y₃] n 0 Q ρ ds (y₁::y₂::y₃::G))[MO x.P]:W x (.region id ops true) Q ρ ds (y₁::y₂::y₃::G):=W.DR _ hn H
end
section
variable{x:Cx}{Q:Post}{ρ:Env}{ds:List Deferred}{F:eG}{ops:Array Oper}{i:Nat}{d:Tmp}{ty:TypeId}{pos:String}{bK:Array Edge}{g:Option (Nat×Bool)}{L:eG}{vs:List Value}
theorem abl{fuel listed t E s b len:Nat}{z:Value}{zc:Array Value}{parts:List (Nat×Operand)}{cs:Array Value}(H:∀β,Any x ops L fuel (listed||| 2 ^ i) Q ((d,.slice (some ⟨β,0,none⟩) len len)::ρ) ds ((β,.cells cs E (0,0))::F))
  (ho:cO ops.toList i=some ⟨some d,.buildSlice t len parts.toArray,ty,pos,bK,g⟩:=by rfl) (hk:Keeps L F:=by first | exact fun _ h=>h | (repeat(first | exact Keeps.nil | refine Keeps.one (by repeat(first | exact List.Mem.head _ | apply List.Mem.tail)) ?_))) [TD x.P t (.slice E)] [TI x.P E s b z zc] (hv:evs ρ (parts.map (·.2))=some vs:=by rfl) (hls:0<len*s:=by decide) (hl:len*s≤2 ^ 24:=by decide)
  (hf:Instr.fill (fun i=>some (i*s,s)) ((List.range (len*s)).map (fun i=>zc[i % zc.size]!)).toArray ((parts.map (·.1)).zip vs)=some cs:=by rfl)
  (hw:dR ops (look ρ) ⟨some d,.buildSlice t len parts.toArray,ty,pos,bK,g⟩ true:=by first | exact an | exact b_ rfl rfl rfl rfl) (hd:Nat.blt d x.n=true:=by rfl) (hr:qx ops listed=[i]:=by kernel_rfl):Any x ops L (fuel+1) listed Q ρ ds F:=
 Any.eff (o:=⟨some d,.buildSlice t len parts.toArray,ty,pos,bK,g⟩) (DN rfl hv hls hl (by rw[show(Array.range (len*s)).map (zc[· % zc.size]!)=((List.range (len*s)).map (fun i=>zc[i % zc.size]!)).toArray by apply Array.ext';simp];exact hf) fun β _ _=>⟨.inr fun p hp=>List.mem_cons_of_mem _ (hk p hp),H β⟩) hr (aU ho) hw hd rfl
end
end Go.aS

/- The senders of a search. Conditions: none; over the given program. -/
namespace Go.aS
set_option maxRecDepth 100000
set_option maxHeartbeats 4000000
theorem aCU{fs:List Fl}{ss:List St}{may:May}:∀{m k:Nat} {q p:List Be},p∈rights fs ss may m k q→p.length=q.length
 | 0,k,q,p,h=>by
  simp only[rights]at h
  split at h
  ·have:p=q:=by simpa using h
   rw[this]
  ·cases h
 | m+1,k,q,p,h=>by
  simp only[rights,List.mem_flatMap]at h
  obtain⟨b,_,h⟩:=h
  split at h
  ·cases h
  ·rw[aCU h,List.length_set]
theorem aIi{fs:List Fl}{ss:List St}{may:May}{l p:List Be}(hl:l.length≤4)(h:p∈Pv fs ss may l):p.length=4∧(flat Be.row p).toArray.size=8∧ones (flat Be.row p).toArray.toList=true:=by
 have e:p.length=4:=(aCU h).trans (aC5 hl)
 exact⟨e,by simp[jT,e],aza⟩

theorem sender(h:Hp)(fs:List Fl)(ss:List St)(may:May)(b:Be)(vf vs mv:Value)(c b5 b1 b4:Nat)(E5 E1 E4 Eg:TypeId)(z5 z1 z4 zg:Nat×Nat)(kc:Hp)(hf:Sl h Fl.row vf fs)(hs:Sl h St.row vs ss)(hm1:one mv=true)(hall:Ju fs ss)(hll:1≤ss.length)(hp:axb fs ss (aw5 [b]))(hm:∀main h,aFZ main mv may h)
  (h5:h b5=some (.cells #[.chan (some c)] E5 z5)) (h1:h b1=some (.cells #[vf,vs,mv] E1 z1)) (h4:h b4=some (.cells #[I b.fl,I b.day] E4 z4)) (hg:h 0=some (.cells #[Ur qM] Eg zg)) (S:Sat h [(c,gch ((Pv fs ss may [b]).map adu))] kc (· =c)):
  Ch prog c (wV prog {target:=.fn (.func ax0) #[.pointer (some ⟨b5,0,none⟩),.pointer (some ⟨b1,0,none⟩),.pointer (some ⟨b4,0,none⟩)],args:= #[]}) kc (· =c):=by
 obtain⟨a,cap,rfl⟩:=hf.dA
 obtain⟨a',cap',rfl⟩:=hs.dA
 refine Ch.start (f:=ax0) aBj rfl rfl (by show 3≤12;decide) [(0,.pointer (some ⟨b5,0,none⟩)),(1,.pointer (some ⟨b1,0,none⟩)),(2,.pointer (some ⟨b4,0,none⟩))] ⟨rfl,rfl,rfl,trivial⟩ S ?_
 refine W.seq<|W.region rfl ?_
 refine agX rfl ?_
 refine Ops.aHp (c:=c) ?_
 refine pq<|W.seq<|W.region rfl ?_
 first | refine ag2 rfl ?_ | refine agW (ady rfl rfl) rfl ?_
 first | refine ag2 rfl ?_ | refine agW (ady rfl rfl) rfl ?_
 refine Ops.NK (cs:= #[I b.fl,I b.day]) (fun Vo=>?_) rfl
 refine c0 (fun h' hE hL=>aGz _ h' (.slice a fs.length cap) (.slice a' ss.length cap') mv (.slice (some ⟨Vo,0,none⟩) 1 1) rfl rfl hm1 rfl) (fun v A' hv=>?_)
 obtain⟨bb,bs,rfl,rfl⟩:=hv
 refine pq<|W.block ?_
 refine W.aFY (σ:=List (List Be)) (X:=List Be) (enc:=adu) (xs:=Pv fs ss may [b]) rfl rfl rfl (fun s _=>s.tail) (fun _ _=>none) (fun p s=>∃r,s=p::r∧p∈Pv fs ss may [b]) (fun s A'=>A'=[(c,gch (s.map adu))]) (fun _ _=>False) (Pv fs ss may [b]) (A₀:=[(c,gch ((Pv fs ss may [b]).map adu))]) (.tail (.tail (.tail .all))) rfl
  (fun h' hE hL=>aEz _ h' fs ss may [b] (.slice a fs.length cap) (.slice a' ss.length cap') mv (.slice (some ⟨Vo,0,none⟩) 1 1) bb bs _ _ _ _ _ _ (hf.ext hE) (hs.ext hE) (Sl.mk (hL Vo _ (.tail _ (.tail _ (.head _)))) rfl (Part.all [I b.fl,I b.day])) hm1 hall hll hp (hm _ h') (hL _ _ (.head _)) (hL _ _ (.tail _ (.head _))) (hE.1 _ _ hg)) (fun s p' e he=>by cases he) (fun pre p post s' e hr=>?_) ?_ ?_
 ·rw[aDF]at hr
  injection hr with hr _
  injection hr with hr _
  rw[e]at hr
  exact⟨post,by rw[←hr];simp,by rw[e];simp⟩
 ·rintro s p A1 ⟨r,rfl,hpr⟩ rfl l h1- -
  obtain⟨-,hsz,hon⟩:=aIi (by simp) hpr
  refine W.region rfl ?_
  refine Ops.new (fun uU=>?_)
  first | refine Ops.jP ?_ | refine Ops.nY ?_
  refine Ops.nil ?_
  refine⟨rfl,rfl,fun h0 hE0 hL0=>?_⟩
  have h5':=hE0.1 _ _ h5
  refine W.block<|W.region rfl ?_
  refine agX rfl ?_
  first | refine ag2 rfl ?_ | refine agW (ady rfl rfl) rfl ?_
  refine Ops.send (c:=c) (v:=adu p) (l:=r.map adu) (fun S h=>h) rfl (aU rfl) rfl wn rfl rfl rfl (.tail .head) ?_
  refine Ops.nil<|dI ?_
  exact⟨rfl,rfl,_,rfl,.skip rfl .refl⟩
 ·intro s e A he hA d
  rw[aDF]at he
  cases he
  subst hA
  refine dI ?_
  refine⟨.inr rfl,aFR.marked (hl:=At.head) ⟨rfl,rfl,?_⟩⟩
  simp
end Go.aS

/- All of an iterator's plans, collected. Conditions: none; over the given program. -/
namespace Go.aS
set_option maxRecDepth 100000
set_option maxHeartbeats 4000000
def rowP(p:List Be):List Value:=(flat Be.row p++List.replicate 8 (I 0)).take 8
theorem aFv:∀(l:List Value) (n:Nat),ones l=true→ones (l.take n)=true
 | [],n,_=>by simp;rfl
 | u::l,0,_=>rfl
 | u::l,n+1,h=>by
  simp only[aS.ones,Bool.and_eq_true]at h
  simp only[List.take_succ_cons,aS.ones,Bool.and_eq_true]
  exact⟨h.1,aFv l n h.2⟩
instance:Rw rowP 8:=⟨fun p=>by simp[rowP],fun p=>aFv _ _ (by rw[OW,Lu];rfl)⟩
theorem aF3{p:List Be}(h:p.length=4):rowP p=flat Be.row p:=by
 have e:(flat Be.row p).length=8:=by rw[jT,h]
 rw[rowP,List.take_append_of_le_length (by omega),←e,List.take_length]
theorem ayE{p:List Be}(h:p.length=4):Part (flat Be.row p).toArray 0 (flat rowP [p]):=by
 rw[aI0,aF3 h];exact Part.all _

theorem four{α:Type}{p:List α}(h:p.length=4):∃a b c d,p=[a,b,c,d]:=by
 match p,h with
 | [a,b,c,d],_=>exact⟨a,b,c,d,rfl⟩
theorem aAN{p:List Be}(h:p.length=4):Instr.fill (fun i=>some (i*8,8)) ((List.range (1*8)).map (fun i=>(#[I 0,I 0,I 0,I 0,I 0,I 0,I 0,I 0]:Array Value)[i % 8]!)).toArray ([0].zip [adu p])=some (flat Be.row p).toArray:=by
 obtain⟨a,b,c,d,rfl⟩:=four h
 kernel_rfl

/-! How many right plans there are -/
theorem aDp{f:Int}:∀{m:Nat} {d:Int},(atI f d m).length=m
 | 0,_=>rfl
 | m+1,d=>by simp[atI,aDp (m:=m)]
theorem aBY{s:St}:∀{m:Nat} {f:Int},(DF s f m).length=m*(s.wa+1).toNat
 | 0,_=>by simp[DF]
 | m+1,f=>by simp[DF,aDp,aBY (m:=m),Nat.succ_mul,Nat.add_comm]
theorem aAt{fs:List Fl}{ss:List St}{may:May}{k:Nat}(hall:Ju fs ss)(hk:k<ss.length):(jc fs ss may k).length≤13:=by
 obtain⟨x,hx,-⟩:=has hk
 have hxe:ax6 ss k=x:=by simp[ax6,List.getD,hx]
 have hxo:=hall.st x (List.mem_of_getElem? hx)
 have hnf:=hall.nf
 have h1:fs.length*(x.wa+1).toNat≤2*6:=Nat.mul_le_mul hnf.2 (by omega)
 unfold jc
 simp only[hxe]
 split <;>split <;>simp[aBY] <;>omega
theorem aCV{α β:Type}{g:α→List β}{n:Nat}:∀{l:List α},(∀a∈l,(g a).length≤n)→(l.flatMap g).length≤l.length*n
 | [],_=>by simp
 | a::l,h=>by
  rw[List.flatMap_cons,List.length_append,List.length_cons,Nat.succ_mul]
  have h1:=h a (List.mem_cons_self ..)
  have h2:=aCV (l:=l) fun b hb=>h b (List.mem_cons_of_mem _ hb)
  omega
theorem aFw{fs:List Fl}{ss:List St}{may:May}(hall:Ju fs ss):∀{m k:Nat} {p:List Be},k+m≤ss.length→(rights fs ss may m k p).length≤13 ^ m
 | 0,k,p,_=>by
  simp only[rights]
  split <;>simp
 | m+1,k,p,h=>by
  obtain⟨B,hB⟩:∃B,13 ^ m=B:=⟨_,rfl⟩
  have hk:k<ss.length:=by clear hB;omega
  have hk1:k+1+m≤ss.length:=by clear hB;omega
  have h1:=aAt (may:=may) hall hk
  have hr:∀b,(if prune fs ss (p.set k b) b then[]else rights fs ss may m (k+1) (p.set k b)).length≤B:=fun b=>by
   by_cases hp:prune fs ss (p.set k b) b=true
   ·rw[if_pos hp];exact Nat.zero_le _
   ·rw[if_neg hp,←hB];exact aFw hall hk1
  have h2:=aCV (l:=jc fs ss may k) (n:=B) fun b _=>hr b
  have h3:(jc fs ss may k).length*B≤13*B:=Nat.mul_le_mul_right _ h1
  rw[Nat.pow_succ,hB,Nat.mul_comm]
  rw[rights]
  exact Nat.le_trans h2 h3

theorem aAO{X:Type}(xs:List X):∀(pre:List X) (s:List X),runs (BN (fun(s:List X) (p:X)=>s++[p]) fun _ _=>none) (s,none) pre=((s++pre,none),true)
 | [],s=>by simp[runs]
 | p::pre,s=>by
  have h:runs (BN (fun(s:List X) (p:X)=>s++[p]) fun _ _=>none) (s,none) (p::pre)=runs (BN (fun(s:List X) (p:X)=>s++[p]) fun _ _=>none) (s++[p],none) pre:=by simp only[runs,BN,Option.isNone_none]
  rw[h,aAO xs pre]
  simp

theorem aF4(main:Side)(h:Hp)(xs:List (List Be))(fv:Value)(hf1:one fv=true)(hi:Iter prog main fv adu xs h)(hx4:∀p∈xs,p.length=4)(hn:xs.length≤100000):dV prog main ayy #[.slice none 0 0,fv] h [] (fun v A=>∃S,Os zl rowP v xs S∧Sb S A):=by
 refine dV.aG aAu rfl (by show 2≤13;decide) [(0,.slice none 0 0),(1,fv)] ⟨rfl,rfl,trivial⟩ ?_
 refine W.seq<|W.region rfl ?_
 refine Ops.box (fun yR=>?_)
 refine agb rfl rfl rfl<|pq<|W.seq<|W.seq<|W.region rfl<|qm rfl rfl rfl<|pq<|W.block ?_
 refine W.aFY (σ:=List (List Be)) (X:=List Be) (enc:=adu) (xs:=xs) rfl rfl rfl (fun s p=>s++[p]) (fun _ _=>none) (fun p s=>∃post,xs=s++p::post) (fun s A=>∃v S,A=(yR,.cells #[v] aIb (0,0))::S∧Os zl rowP v s S) (fun _ _=>False) [] .all ⟨_,_,rfl,.nil .nil⟩
  (fun h' hE hL=>hi.ext hE) (fun s p' e he=>by cases he) (fun pre p post s' e hr=>?_) ?_ ?_
 ·rw[aAO xs]at hr
  injection hr with hr _
  injection hr with hr _
  exact⟨post,by rw[←hr];simpa using e⟩
 ·rintro s p A1 ⟨post,hpost⟩ ⟨v,S,rfl,hS⟩ l h1- -
  have Du:p.length=4:=hx4 p (by rw[hpost];simp)
  have hsz:(flat Be.row p).toArray.size=8:=by simp[jT,Du]
  have hon:ones (flat Be.row p).toArray.toList=true:=aza
  have hsn:s.length+1≤xs.length:=by rw[hpost];simp
  refine W.region rfl ?_
  refine Ops.new (fun mZ=>?_)
  first | refine Ops.jP ?_ | refine Ops.nY ?_
  refine Ops.nil ?_
  refine⟨rfl,rfl,fun h0 hE0 hL0=>?_⟩
  refine W.block<|W.region rfl ?_
  refine agX rfl ?_
  first | refine ag2 rfl ?_ | refine agW (ady rfl rfl) rfl ?_
  refine Ops.NK (cs:=(flat Be.row p).toArray) (fun Oj=>?_) rfl (hf:=by exact aAN Du)
  refine oe rfl wn rfl rfl (iW (row:=rowP) (l':=[p]) rfl rfl rfl hS (.tail (.tail (.tail .all))) (fun h2 _ hl=>Sl.mk (hl Oj _ (.head _)) rfl (ayE Du)) (by simp;omega) (by decide) rfl (fun v' S' hS'=>?_))
  obtain⟨an,aJ8,rfl⟩:=hS'.dA
  refine Ops.yG ?_
  refine Ops.nil<|dI ?_
  exact⟨rfl,rfl,_,⟨_,S',rfl,hS'⟩,.skip rfl (.skip rfl .refl)⟩
 ·intro s e A he hA d
  rw[aAO xs,List.nil_append]at he
  cases he
  obtain⟨v,S,rfl,hS⟩:=hA
  refine dI<|aA<|W.seq<|W.region rfl ?_
  refine agX rfl ?_
  refine agb rfl rfl rfl<|pq<|W.ret ?_
  exact lvm (hl:=At.head) (mg (vs:=[v]) ⟨S,hS,.skip rfl (.skip rfl .refl)⟩)

theorem aHq(main:Side)(h:Hp)(xs:List (List Be))(fv:Value)(hf1:one fv=true)(hi:Iter prog main fv adu xs h)(hx4:∀p∈xs,p.length=4)(hn:xs.length≤100000):dV prog main ay4 #[fv] h [] (fun v A=>∃S,Os zl rowP v xs S∧Sb S A):=by
 refine dV.aG aAY rfl (by show 1≤5;decide) [(0,fv)] ⟨rfl,trivial⟩ ?_
 refine W.seq<|W.region rfl<|agb rfl rfl rfl<|pq<|W.seq<|W.region rfl<|qm rfl rfl rfl ?_
 refine c0 (fun h' hE hL=>aF4 _ h' xs fv hf1 (hi.ext hE) hx4 hn) (fun v A' hv=>?_)
 obtain⟨S,hS,hsb⟩:=hv
 refine agb rfl rfl rfl<|pq<|W.ret ?_
 exact mg (vs:=[v]) ⟨S,hS,by simpa using hsb⟩
end Go.aS

/- All right plans, looked for at the same time. Conditions: none; over the given program. -/
namespace Go.aS
set_option maxRecDepth 100000
set_option maxHeartbeats 4000000
def aGA(fs:List Fl)(ss:List St)(may:May)(b:Be):List Value:=(Pv fs ss may [b]).map adu
def azZ(fs:List Fl)(ss:List St)(may:May):List (List Be):=if ss.length=0 then Pv fs ss may []else(jc fs ss may 0).flatMap fun b=>Pv fs ss may [b]
theorem aDq{b:Be}:aw5 [b]=(aw5 []).set 0 b:=rfl
theorem aBZ{fs:List Fl}{ss:List St}{may:May}{l:List Be}(hall:Ju fs ss)(hl:l.length≤ss.length):(Pv fs ss may l).length≤13 ^ (ss.length-l.length):=aFw hall (by omega)
theorem aB0{fs:List Fl}{ss:List St}{may:May}(hall:Ju fs ss)(hs:1≤ss.length):∀(l:List Be),(l.flatMap fun b=>Pv fs ss may [b]).length≤l.length*2197
 | l=>aCV fun b _=>by
  have h1:=aBZ (may:=may) (l:=[b]) hall hs
  have h2:ss.length- [b].length≤3:=by have:=hall.ns;simp;omega
  have h3:13 ^ (ss.length- [b].length)≤13 ^ 3:=Nat.pow_le_pow_right (by decide) h2
  omega
theorem aD5{fs:List Fl}{ss:List St}{may:May}{l:List Be}(hl:l.length≤4){p:List Be}(h:p∈Pv fs ss may l):p.length=4:=(aCU h).trans (aC5 hl)
theorem MG{α:Type}{l:List α}{i:Nat}{p:α}(h:l[i]? =some p):l.take (i+1)=l.take i++[p]:=by
 rw[List.take_add_one,h];rfl
theorem aJa{cs:List (Nat×List Value)}{i:Nat}{c:Nat×List Value}(h:cs[i]? =some c):chF (cs.drop i)=(c.1,gch c.2)::chF (cs.drop (i+1)):=by
 obtain⟨p,h1,h2⟩:=has (show i<cs.length by
  rcases Nat.lt_or_ge i cs.length with h' | h'
  ·exact h'
  ·rw[List.getElem?_eq_none h']at h;cases h)
 rw[h]at h1
 cases h1
 rw[h2];rfl
theorem aJ9{cs:List (Nat×List Value)}{c:Nat×List Value}:chF (cs++[c])=chF cs++[(c.1,gch c.2)]:=by simp[chF]
def aFx(l:List (List Be)):List Be:=l.headD [⟨0,0⟩,⟨0,0⟩,⟨0,0⟩,⟨0,0⟩]
theorem aJb(l:List (List Be)):(l.map adu).headD afZ=adu (aFx l):=by cases l <;>rfl

theorem ab7(main:Side)(hS:∀S,main.ok S→∃Fin,S=Mn prog Fin)(hmb:main.b=true)(h:Hp)(fs:List Fl)(ss:List St)(may:May)(vf vs mv:Value)(Eg:TypeId)(zg:Nat×Nat)(hf:Sl h Fl.row vf fs)(hs:Sl h St.row vs ss)(zf:Zs h vf)(zs:Zs h vs)(hm1:one mv=true)(hall:Ju fs ss)(hm:∀main h,aFZ main mv may h)
  (hg:h 0=some (.cells #[Ur qM] Eg zg)) (z0:h.z 0):dV prog main az7 #[aDM vf vs mv] h [] (fun v A=>∃S,Os zl rowP v (azZ fs ss may) S∧Sb S A):=by
 obtain⟨a,cap,rfl⟩:=hf.dA
 obtain⟨a',cap',rfl⟩:=hs.dA
 refine dV.aG aCd rfl (by show 1≤48;decide) [(0,aDM (.slice a fs.length cap) (.slice a' ss.length cap') mv)] ⟨rfl,trivial⟩ ?_
 refine W.seq<|W.region rfl ?_
 refine Ops.box (fun β1=>?_)
 refine agb rfl rfl rfl<|pq<|W.seq<|W.seq<|W.region rfl ?_
 refine agY rfl ?_
 refine agY rfl ?_
 refine agY rfl ?_
 refine agX rfl ?_
 refine agW (dM rfl rfl) rfl ?_
 refine agW (nD rfl rfl rfl) rfl ?_
 refine pq ?_
 refine W.bC rfl (fun c16=>?_) (fun c16=>?_)
 ·have hn0:ss.length=0:=by omega
  refine W.seq<|W.region rfl ?_
  first | refine ag2 rfl ?_ | refine agW (ady rfl rfl) rfl ?_
  refine c0 (fun h' hE hL=>aGz _ h' (.slice a fs.length cap) (.slice a' ss.length cap') mv (.slice none 0 0) rfl rfl hm1 rfl) (fun v A' hv=>?_)
  obtain⟨bb,bs,rfl,rfl⟩:=hv
  refine c0 (fun h' hE hL=>aHq _ h' (Pv fs ss may []) _ rfl (aEz _ h' fs ss may [] (.slice a fs.length cap) (.slice a' ss.length cap') mv (.slice none 0 0) bb bs _ _ Eg _ _ zg (hf.ext hE) (hs.ext hE) .nil hm1 hall (Nat.zero_le _) (azf hall.nf.1) (hm _ h') (hL _ _ (.head _)) (hL _ _ (.tail _ (.head _))) (hE.1 _ _ hg)) (fun p hp=>aD5 (Nat.zero_le _) hp) (by
   have h1:=aBZ (may:=may) (l:=[]) hall (Nat.zero_le _)
   rw[hn0]at h1
   exact Nat.le_trans h1 (by decide))) (fun v A' hv=>?_)
  obtain⟨S,hS,hsb⟩:=hv
  refine agb rfl rfl rfl<|pq<|W.ret<|aY ?_
  refine mg (vs:=[v]) ⟨S,?_,?_⟩
  ·rw[azZ,if_pos hn0];exact hS
  ·exact hsb.right (by repeat(first | exact Shut.nil | refine Shut.cons rfl ?_))
 ·refine W.skip<|aA ?_
  have hn0:¬ss.length=0:=by omega
  refine W.freeze (b:=β1) rfl (fun hz hEz hbz hzz=>?_)
  have hf1:=hf.ext hEz
  have hs1:=hs.ext hEz
  have hg1:=hEz.1 _ _ hg
  refine W.seq<|W.region rfl ?_
  refine Ops.new (fun uU=>?_)
  refine pq<|W.seq<|W.seq<|W.region rfl ?_
  first | refine ag2 rfl ?_ | refine agW (ady rfl rfl) rfl ?_
  refine c0 (fun h' hE hL=>aFr _ h' _ _ mv 0 rfl rfl hm1) (fun v A' hv=>?_)
  obtain⟨b2,b3,rfl,rfl⟩:=hv
  refine pq<|W.block ?_
  refine W.aFY (σ:=List Be) (X:=Be) (enc:=Be.val) (xs:=jc fs ss may 0) rfl rfl rfl (fun s b=>s++[b]) (fun _ _=>none) (fun b s=>∃post,jc fs ss may 0=s++b::post)
   (fun s A=>∃v S cs,A=(uU,.cells #[v] ayN (0,0))::(S++chF cs)∧Os aBW agh v (cs.map (·.1)) S∧cs.map (·.2)=s.map (aGA fs ss may)) (fun _ _=>False) [] (.tail (.tail .all)) ⟨_,[],[],rfl,.nil .nil,rfl⟩
   (fun h' hE hL=>aDN _ h' fs ss may 0 _ _ mv b2 b3 _ _ _ _ (hf1.ext hE) (hs1.ext hE) hall (by omega) (hm _ h') (hL _ _ (.tail _ (.head _))) (hL _ _ (.head _))) (fun s p' e he=>by cases he) (fun pre p post s' e hr=>?_) ?_ ?_
  ·rw[aAO (jc fs ss may 0)]at hr
   injection hr with hr _
   injection hr with hr _
   exact⟨post,by rw[←hr];simpa using e⟩
  ·rintro s b A1 ⟨post,hpost⟩ ⟨v,S,cs,rfl,hO,hcs⟩ l h1- -
   have hbm:b∈jc fs ss may 0:=by rw[hpost];simp
   have hcl:cs.length=s.length:=by simpa using congrArg List.length hcs
   have hsl:s.length+1≤13:=by
    have:=aAt (may:=may) hall (show 0<ss.length by omega)
    rw[hpost]at this
    simp at this
    omega
   refine W.region rfl ?_
   refine Ops.new (fun wC=>?_)
   first | refine Ops.jP ?_ | refine Ops.nY ?_
   refine Ops.nil ?_
   refine⟨rfl,rfl,fun h0 hE0 hL0=>?_⟩
   refine W.block<|W.seq<|W.region rfl ?_
   refine oe rfl wn rfl rfl (aHg rfl rfl fun alR aNH _=>?_)
   refine Ops.new (fun mZ=>?_)
   refine Ops.yG ?_
   refine pq<|W.seq<|W.region rfl ?_
   refine agX rfl ?_
   refine agX rfl ?_
   refine Ops.NK (cs:= #[.chan (some alR)]) (fun aKL=>?_) rfl
   refine oe rfl wn rfl rfl (iW (row:=agh) (l':=[alR]) rfl rfl rfl hO (.tail (.tail (.tail (.tail (.tail .head))))) (fun h2 _ hl=>Sl.mk (hl aKL _ (.head _)) rfl (Part.all [.chan (some alR)])) (by simp;omega) (by decide) rfl (fun v' S' Ie=>?_))
   obtain⟨an,aJ8,rfl⟩:=Ie.dA
   refine Ops.yG ?_
   refine pq ?_
   refine W.sb (F':=(mZ,.cells #[.chan (some alR)] aBW (0,0))::(wC,.cells #[I b.fl,I b.day] aw3 (0,0))::(alR,acF)::(uU,.cells #[.slice an (cs.map (·.1)++[alR]).length aJ8] ayN (0,0))::(S'++chF cs)) (.skip rfl (.cons (Sb.dF (List.Perm.swap _ _ _)))) ?_
   refine W.freeze (b:=mZ) rfl (fun h5 hE5 hb5 hz5=>?_)
   refine W.freeze (b:=wC) rfl (fun h4 hE4 hb4 hz4=>?_)
   refine W.region rfl ?_
   refine agW (ayq rfl rfl rfl) rfl ?_
   refine Ops.spawn (c:=alR) (l:=aGA fs ss may b) (args:=[]) (vs:=[]) hS hmb (aU rfl) rfl wn rfl rfl rfl .head (fun hn kc afp=>?_) ?_
   ·have hEh:Ext hz h4:=(hE0.trans hE5).trans hE4
    have hlt:0<ss.length:=by omega
    exact sender (aDL h4 alR) fs ss may b (.slice a fs.length cap) (.slice a' ss.length cap') mv alR mZ β1 wC aBW aBV aw3 Eg (0,0) (0,0) (0,0) zg kc ((hf1.ext hEh).told ((zf.ext hEz).ext hEh) hn) ((hs1.ext hEh).told ((zs.ext hEz).ext hEh) hn) hm1 hall hlt (by rw[aDq];exact ax4 (azf hall.nf.1) hlt (awZ hall hlt hbm)) hm
     (aBy hn (hE4.2 _ hz5) (hE4.1 _ _ hb5) rfl) (aBy hn (hEh.2 _ hzz) (hEh.1 _ _ hbz) rfl) (aBy hn hz4 hb4 rfl) (aBy hn (hEh.2 _ (hEz.2 _ z0)) (hEh.1 _ _ hg1) rfl) afp
   refine Ops.nil<|dI ?_
   refine⟨rfl,rfl,(uU,.cells #[.slice an (cs.map (·.1)++[alR]).length aJ8] ayN (0,0))::(S'++chF (cs++[(alR,aGA fs ss may b)])),⟨_,S',cs++[(alR,aGA fs ss may b)],rfl,by rw[List.map_append];exact Ie,by rw[List.map_append,List.map_append,hcs];rfl⟩,Sb.dF ?_⟩
   rw[aJ9]
   refine List.Perm.trans (.cons _ ?_) (List.Perm.swap _ _ _)
   rw[←List.append_assoc]
   exact List.perm_append_comm
  ·intro s e A he hA d
   rw[aAO (jc fs ss may 0),List.nil_append]at he
   cases he
   obtain⟨v,S,cs,rfl,hO,hcs⟩:=hA
   have hcl:cs.length=(jc fs ss may 0).length:=by simpa using congrArg List.length hcs
   obtain⟨chs,hch⟩:∃l,cs.map (·.1)=l:=⟨_,rfl⟩
   have aNI:chs.length=cs.length:=by rw[←hch];simp
   have aNq:cs.length≤13:=by rw[hcl];exact aAt hall (by omega)
   rw[hch]at hO
   obtain⟨ac,aK8,rfl⟩:=hO.dA
   refine dI<|aA ?_
   refine W.sb (F':=S++((d,.deferred (some []))::(uU,.cells #[.slice ac chs.length aK8] ayN (0,0))::chF cs)) ?_ ?_
   ·refine Sb.trans (Sb.dF ?_) (.cons (.skip rfl (.skip rfl .refl)))
    exact List.perm_middle.trans (.cons _ List.perm_middle)
   refine JU hO (fun hx hEx hsl _=>?_)
   refine W.seq<|W.region rfl<|agb rfl rfl rfl<|pq<|W.seq<|W.seq<|W.region rfl ?_
   refine agX rfl ?_
   refine agW (dM rfl rfl) rfl ?_
   refine qm rfl rfl rfl<|pq<|W.block ?_
   refine W.Js (fun(i:Nat) (o:Value) (O:eG)=>i≤cs.length∧Os zl rowP o (((jc fs ss may 0).take i).flatMap fun b=>Pv fs ss may [b]) O) (fun i o O=>[(31,I i),(30,I chs.length),(29,.slice ac chs.length aK8),(6,o)]) (fun i o O=>(d,.deferred (some []))::(O++chF (cs.drop i))) (fun i _ _=>cs.length-i) 0 (.slice none 0 0) [] ⟨Nat.zero_le _,.nil .nil⟩ ⟨rfl,rfl,rfl,rfl,trivial⟩ (.cons (.skip rfl .refl)) ?_
   rintro i o O ⟨hi,hOo⟩
   refine W.seq<|W.region rfl ?_
   refine agW (fO rfl rfl rfl) rfl ?_
   refine pq<|W.seq ?_
   refine W.bC rfl (fun c32=>?_) (fun c32=>?_)
   ·obtain⟨⟨c,cl⟩,hc,-⟩:=has (show i<cs.length by omega)
    obtain⟨b,hb,-⟩:=has (show i<(jc fs ss may 0).length by omega)
    have hcc:chs[i]? =some c:=by rw[←hch,List.getElem?_map,hc];rfl
    have hcb:cl=aGA fs ss may b:=by
     have:=congrArg (·[i]?) hcs
     simp only[List.getElem?_map,hc,hb]at this
     simpa using this
    obtain⟨bb,off,cc,EE,fz,rfl,hbb,hx1,hy1,hz1⟩:=hsl.at hcc
    have hz0:cc[off+i*1]? =some (.chan (some c)):=hz1 0 (by decide)
    clear hx1 hz1
    have hlen:((((jc fs ss may 0).take i).flatMap fun b=>Pv fs ss may [b])++Pv fs ss may [b]).length≤14*2197:=by
     have h1:=aB0 (may:=may) hall (by omega) ((jc fs ss may 0).take i)
     have h2:=aB0 (may:=may) hall (by omega) [b]
     have h3:((jc fs ss may 0).take i).length≤13:=by rw[List.length_take];omega
     have h4:((jc fs ss may 0).take i).length*2197≤13*2197:=Nat.mul_le_mul_right _ h3
     rw[List.flatMap_cons,List.flatMap_nil,List.append_nil]at h2
     simp only[List.length_append,List.length_cons,List.length_nil]at h2⊢
     omega
    refine W.skip<|aA<|W.seq<|W.block<|W.seq<|W.region rfl ?_
    refine ag3 rfl ?_
    refine agX rfl ?_
    refine agb rfl rfl rfl<|pq<|W.block ?_
    refine W.Js (fun(rem:List (List Be)) (o:Value) (O:eG)=>∃done,done++rem=Pv fs ss may [b]∧Os zl rowP o ((((jc fs ss may 0).take i).flatMap fun b=>Pv fs ss may [b])++done) O) (fun rem o O=>[(8,.chan (some c)),(31,I i),(30,I chs.length),(29,.slice (some ⟨bb,off,none⟩) chs.length aK8),(6,o)]) (fun rem o O=>(c,gch (rem.map adu))::(d,.deferred (some []))::(O++chF (cs.drop (i+1)))) (fun rem _ _=>rem.length) (Pv fs ss may [b]) o O ⟨[],rfl,by simpa using hOo⟩ ⟨rfl,rfl,rfl,rfl,rfl,trivial⟩ (Sb.dF ?_) ?_
    ·rw[aJa hc,hcb]
     refine(List.Perm.swap _ _ _).trans (.cons _ ?_)
     exact List.perm_middle.symm
    clear hOo
    rintro rem o O ⟨done,hdn,hOo⟩
    have Du:(aFx rem).length=4:=by
     cases rem with
     | nil=>rfl
     | cons p r=>exact aD5 (l:=[b]) (by simp) (by rw[←hdn];simp[aFx])
    have hsz:(flat Be.row (aFx rem)).toArray.size=8:=by simp[jT,Du]
    have hon:ones (flat Be.row (aFx rem)).toArray.toList=true:=aza
    refine W.block<|W.seq<|W.region rfl<|qm rfl rfl rfl ?_
    refine Ops.aL3 (c:=c) (u:=adu (aFx rem)) hS hmb (aJb rem) .head ?_
    refine qm rfl rfl rfl<|oq (bD rfl rfl rfl) rfl wn rfl rfl<|oq (bD rfl rfl rfl) rfl wn rfl rfl ?_
    refine Ops.new (fun Uw=>?_)
    first | refine Ops.jP ?_ | refine Ops.nY ?_
    refine agb rfl rfl rfl<|pq<|W.seq<|W.seq<|W.region rfl<|qm rfl rfl rfl ?_
    refine agW (xU rfl rfl) rfl ?_
    refine pq ?_
    refine W.cond rfl (fun c41=>?_) (fun c41=>?_)
    ·have hr0:rem=[]:=by
      cases rem with
      | nil=>rfl
      | cons p r=>cases c41
     subst hr0
     refine W.exit<|bP<|Tt<|bP<|gG<|dI<|aA<|W.region rfl ?_
     refine ag1 rfl ?_
     refine qm rfl rfl rfl<|pq ?_
     refine⟨rfl,i+1,o,O,⟨by omega,?_⟩,by omega,⟨rfl,rfl,rfl,rfl,trivial⟩,.skip rfl (.skip rfl .refl)⟩
     rw[List.append_nil]at hdn
     rw[MG hb,List.flatMap_append]
     simpa[hdn]using hOo
    ·obtain⟨p,r,rfl⟩:∃p r,rem=p::r:=by
      cases rem with
      | nil=>cases c41
      | cons p r=>exact⟨p,r,rfl⟩
     have hll:((((jc fs ss may 0).take i).flatMap fun b=>Pv fs ss may [b])++done).length+1≤14*2197:=by
      rw[←hdn]at hlen
      simp only[List.length_append,List.length_cons]at hlen⊢
      omega
     refine W.skip<|aA<|W.region rfl<|qm rfl rfl rfl ?_
     first | refine ag2 rfl ?_ | refine agW (ady rfl rfl) rfl ?_
     refine Ops.NK (cs:=(flat Be.row p).toArray) (fun aKM=>?_) rfl (hf:=by exact aAN Du)
     refine oe rfl wn rfl rfl (iW (row:=rowP) (l':=[p]) rfl rfl rfl hOo (.tail (.tail (.tail (.tail .head)))) (fun h2 _ hl=>Sl.mk (hl aKM _ (.head _)) rfl (ayE Du)) (by simp at hll⊢;omega) (by decide) rfl (fun v' S' Ie=>?_))
     obtain⟨an,aJ8,rfl⟩:=Ie.dA
     refine agb rfl rfl rfl<|Ops.nil<|dI<|aA ?_
     exact⟨rfl,r,_,S',⟨done++[p],by rw[←hdn];simp,by rw[←List.append_assoc];exact Ie⟩,by simp,⟨rfl,rfl,rfl,rfl,rfl,trivial⟩,.skip rfl (.skip rfl .refl)⟩
   ·have hie:i=cs.length:=by omega
    subst hie
    refine W.exit<|bP<|bP<|gG<|aA<|W.seq<|W.region rfl<|qm rfl rfl rfl<|agb rfl rfl rfl<|Ops.nil ?_
    refine aA<|W.ret ?_
    refine lvm (hl:=At.head) (mg (vs:=[o]) ⟨O,?_,?_⟩)
    ·rw[azZ,if_neg hn0]
     rw[hcl,List.take_length]at hOo
     exact hOo
    ·simpa[chF]using Sb.skip rfl .refl
end Go.aS

/- Structs and arrays of numbers beside each other; maps whose keys are of these. Conditions: none; over any program. -/
namespace Go.aS
class NS(P:Program)(t:TypeId):Prop where
 stood:P.stoodInHeld t=false
 guard:P.eqGuardType P.depth t=false

abbrev nI(n:Int):Value:=.int .i64 n
def EqAt(P:Program)(t:TypeId)(w K:Nat):Prop:=∀{h:Hp} {F:eG} {β:Type} {f:Bool→Sem β} {Q:β→eG→Prop} (d:Nat) {xs ys:Array Value} {off:Nat} {us bs:List Int},us.length=w→bs.length=w→Part xs off (us.map nI)→Part ys off (bs.map nI)→
 tr P h ((part t xs off).bind fun x=>(part t ys off).bind fun y=>(Op.equalIn (d+K) t x y).bind f) F Q=tr P h (f (decide (us=bs))) F Q
def V7(P:Program)(t:TypeId)(w K:Nat):Prop:=∀{h:Hp} {F:eG} {β:Type} {f:Bool→Sem β} {Q:β→eG→Prop} (d:Nat) {us bs:List Int},us.length=w→bs.length=w→
 tr P h ((Op.equalIn (d+K) t (.agg (us.map nI).toArray) (.agg (bs.map nI).toArray)).bind f) F Q=tr P h (f (decide (us=bs))) F Q

theorem EqAt.int{P:Program}{t:TypeId}[TD P t (.int .i64)][SC P t]:EqAt P t 1 1:=by
 intro hp F β f Q d xs ys off us bs h1 h2 h3 h4
 obtain⟨a,rfl⟩:=List.length_eq_one_iff.1 h1
 obtain⟨b,rfl⟩:=List.length_eq_one_iff.1 h2
 have e1:xs[off]? =some (nI a):=h3.get (j:=0) (by simp)
 have e2:ys[off]? =some (nI b):=h4.get (j:=0) (by simp)
 rw[lT e1,lT e2]
 simp only[Op.equalIn,bind_eq,gq,bind_assoc,bind_pure,aC,if_true]
 congr 2
 rw[Ii]
 by_cases h:a=b <;>simp[h]
theorem V7.at{P:Program}{t w K:Nat}(H:V7 P t w K)[AG P t w]:EqAt P t w K:=by
 intro hp F β f Q d xs ys off us bs h1 h2 h3 h4
 have e1:=h3.extract
 have e2:=h4.extract
 rw[List.length_map,h1]at e1
 rw[List.length_map,h2]at e2
 rw[ru,ru,e1,e2]
 exact H d h1 h2

theorem EN{us bs:List Int}{w:Nat}(h:us.take w=bs.take w)(h':us.drop w=bs.drop w):us=bs:=by
 rw[←List.take_append_drop w us,←List.take_append_drop w bs,h,h']
theorem Part.two{xs:Array Value}{off w:Nat}{us:List Int}(h:Part xs off (us.map nI))(hw:w≤us.length):Part xs off ((us.take w).map nI)∧Part xs (off+w) ((us.drop w).map nI):=by
 have e:us.map nI=[]++((us.take w).map nI++(us.drop w).map nI):=by rw[List.nil_append,←List.map_append,List.take_append_drop]
 constructor
 ·rw[e]at h;exact h.sub
 ·have e':us.map nI=(us.take w).map nI++((us.drop w).map nI++[]):=by rw[List.append_nil,←List.map_append,List.take_append_drop]
  rw[e']at h
  have:=h.sub
  rwa[List.length_map,List.length_take,Nat.min_eq_left hw]at this

def Lay(P:Program)(K:Nat):List Field→List Nat→Nat→Prop
 | [],[],_=>True
 | f::fs,w::ws,o=>f.name≠ "_" ∧f.offset=o∧EqAt P f.type w K∧Lay P K fs ws (o+w)
 | _,_,_=>False

theorem Lay.nil{P:Program}{K o:Nat}:Lay P K [] [] o:=trivial
theorem Lay.cons{P:Program}{K o w:Nat}{f:Field}{fs:List Field}{ws:List Nat}(hn:f.name≠ "_")(ho:f.offset=o)(he:EqAt P f.type w K)(hl:Lay P K fs ws (o+w)):Lay P K (f::fs) (w::ws) o:=⟨hn,ho,he,hl⟩
theorem L6{P:Program}{K:Nat}{xs ys:Array Value}{hp:Hp}{F:eG}{β:Type}{Q:β→eG→Prop}(d:Nat){g:Option Bool×Unit→Sem β}:∀(fs:List Field) (ws:List Nat) (o:Nat) (us bs:List Int),Lay P K fs ws o→us.length=ws.sum→bs.length=ws.sum→Part xs o (us.map nI)→Part ys o (bs.map nI)→
  tr P hp ((
            forIn fs (
            (none,()):Option Bool×Unit) fun f __s=>
         if f.name≠ "_" then
          (
           part f.type xs f.offset).bind fun __do_lift=>
           (
            part f.type ys f.offset).bind fun __do_lift_1=>
            (
             Op.equalIn (d+K) f.type __do_lift __do_lift_1).bind fun __do_lift=>
             if(!__do_lift)=true then Sem.pure (ForInStep.done (some false,()))
             else Sem.pure (ForInStep.yield (none,()))
         else Sem.pure (ForInStep.yield (none,()))).bind g) F Q=tr P hp (g (if us=bs then(none,())else(some false,()))) F Q
 | [],[],o,us,bs,_,h1,h2,h3,h4=>by
  have e1:us=[]:=List.length_eq_zero_iff.1 (by simpa using h1)
  have e2:bs=[]:=List.length_eq_zero_iff.1 (by simpa using h2)
  subst e1 e2
  simp only[List.forIn_nil,gq,bind_pure,if_true]
 | f::fs,w::ws,o,us,bs,hl,h1,h2,h3,h4=>by
  obtain⟨hn,ho,he,hl⟩:=hl
  simp only[List.sum_cons]at h1 h2
  obtain⟨p1,p2⟩:=h3.two (w:=w) (by omega)
  obtain⟨q1,q2⟩:=h4.two (w:=w) (by omega)
  have e1:(us.take w).length=w:=by simp;omega
  have e2:(bs.take w).length=w:=by simp;omega
  subst ho
  simp only[List.forIn_cons,bind_eq,if_pos hn,bind_assoc]
  rw[he d e1 e2 p1 q1]
  by_cases hc:us.take w=bs.take w
  ·simp only[hc,decide_true,Bool.not_true,Bool.false_eq_true,if_false,bind_pure]
   rw[L6 d fs ws _ (us.drop w) (bs.drop w) hl (by simp;omega) (by simp;omega) p2 q2]
   by_cases hd:us.drop w=bs.drop w
   ·rw[if_pos hd,if_pos (EN hc hd)]
   ·rw[if_neg hd,if_neg (fun h=>hd (by rw[h]))]
  ·simp only[hc,decide_false,Bool.not_false,if_true,bind_pure]
   rw[if_neg (fun h=>hc (by rw[h]))]
   simp only[gq,bind_pure]
 | [],_::_,_,_,_,hl,_,_,_,_=>hl.elim
 | _::_,[],_,_,_,hl,_,_,_,_=>hl.elim

theorem V7.struct{P:Program}{t:TypeId}{fs:Array Field}{ws:List Nat}{K:Nat}[TD P t (.struct fs)][n:NS P t](hl:Lay P K fs.toList ws 0):V7 P t ws.sum (K+1):=by
 intro hp F β f Q d us bs h1 h2
 have hs:=n.stood
 show tr P hp ((Op.equalIn (d+K+1) t _ _).bind f) F Q=_
 simp only[Op.equalIn,bind_eq,gq,bind_assoc,bind_pure,aC,program,Sem.bind,tr,hs,Bool.false_eq_true,if_false]
 rw[←Array.forIn_toList,L6 d fs.toList ws 0 us bs hl h1 h2 (Part.all _) (Part.all _)]
 by_cases h:us=bs <;>simp[h,bind_pure]

theorem Qd{P:Program}{E w K:Nat}{xs ys:Array Value}{hp:Hp}{F:eG}{β:Type}{Q:β→eG→Prop}(he:EqAt P E w K)(d:Nat){g:Option Bool×Unit→Sem β}:∀(n i:Nat) (us bs:List Int),us.length=n*w→bs.length=n*w→Part xs (i*w) (us.map nI)→Part ys (i*w) (bs.map nI)→
  tr P hp ((
       forIn (List.range' i n) ((none,()):Option Bool×Unit) fun i __s=>
      (
       part E xs (i*w)).bind fun __do_lift=>
       (
        part E ys (i*w)).bind fun __do_lift_1=>
        (
         Op.equalIn (d+K) E __do_lift __do_lift_1).bind fun __do_lift=>
         if(!__do_lift)=true then Sem.pure (ForInStep.done (some false,()))
         else Sem.pure (ForInStep.yield (none,()))).bind g) F Q=tr P hp (g (if us=bs then(none,())else(some false,()))) F Q
 | 0,i,us,bs,h1,h2,h3,h4=>by
  have e1:us=[]:=List.length_eq_zero_iff.1 (by simpa using h1)
  have e2:bs=[]:=List.length_eq_zero_iff.1 (by simpa using h2)
  subst e1 e2
  simp only[List.range'_zero,List.forIn_nil,gq,bind_pure,if_true]
 | n+1,i,us,bs,h1,h2,h3,h4=>by
  rw[Nat.succ_mul]at h1 h2
  obtain⟨p1,p2⟩:=h3.two (w:=w) (by omega)
  obtain⟨q1,q2⟩:=h4.two (w:=w) (by omega)
  have e1:(us.take w).length=w:=by simp;omega
  have e2:(bs.take w).length=w:=by simp;omega
  have e3:i*w+w=(i+1)*w:=by rw[Nat.succ_mul]
  rw[e3]at p2 q2
  simp only[List.range'_succ,List.forIn_cons,bind_eq,bind_assoc]
  rw[he d e1 e2 p1 q1]
  by_cases hc:us.take w=bs.take w
  ·simp only[hc,decide_true,Bool.not_true,Bool.false_eq_true,if_false,bind_pure]
   rw[Qd he d n (i+1) (us.drop w) (bs.drop w) (by simp;omega) (by simp;omega) p2 q2]
   by_cases hd:us.drop w=bs.drop w
   ·rw[if_pos hd,if_pos (EN hc hd)]
   ·rw[if_neg hd,if_neg (fun h=>hd (by rw[h]))]
  ·simp only[hc,decide_false,Bool.not_false,if_true,bind_pure]
   rw[if_neg (fun h=>hc (by rw[h]))]
   simp only[gq,bind_pure]

theorem V7.array{P:Program}{t n E w K:Nat}{s:Nat}{z:Value}{zc:Array Value}[TD P t (.array n E)][TI P E w s z zc](he:EqAt P E w K):V7 P t (n*w) (K+1):=by
 intro hp F β f Q d us bs h1 h2
 show tr P hp ((Op.equalIn (d+K+1) t _ _).bind f) F Q=_
 simp only[Op.equalIn,bind_eq,gq,bind_assoc,bind_pure,aC,dH]
 rw[Std.Legacy.Range.forIn_eq_forIn_range']
 have e:(Std.Legacy.Range.size [:n])=n:=by simp[Std.Legacy.Range.size]
 rw[e]
 refine(Qd he d n 0 us bs h1 h2 (by rw[Nat.zero_mul];exact Part.all _) (by rw[Nat.zero_mul];exact Part.all _)).trans ?_
 by_cases h:us=bs <;>simp[h,bind_pure]

class EV(P:Program)(t:TypeId)(w:outParam Nat):Prop where
 out:V7 P t w 9
theorem V7.le{P:Program}{t w K K':Nat}(H:V7 P t w K)(h:K≤K'):V7 P t w K':=by
 intro hp F β f Q d us bs h1 h2
 have:= @H hp F β f Q (d+(K'-K)) us bs h1 h2
 rwa[show d+(K'-K)+K=d+K' by omega]at this

section rules
variable{x:Cx}{ρ:Env}{F:eG}{S:eG→Prop}{o:Oper}{R:Value→eG→Prop}
theorem X7{P:Program}{t w:Nat}[v:EV P t w]{h:Hp}{F:eG}{β:Type}{f:Bool→Sem β}{Q:β→eG→Prop}{us bs:List Int}(h1:us.length=w)(h2:bs.length=w):tr P h ((Op.equal t (.agg (us.map nI).toArray) (.agg (bs.map nI).toArray)).bind f) F Q=tr P h (f (decide (us=bs))) F Q:=by
 have e:Op.equal t (.agg (us.map nI).toArray) (.agg (bs.map nI).toArray)=Op.equalIn (9991+9) t (.agg (us.map nI).toArray) (.agg (bs.map nI).toArray):=rfl
 rw[e]
 exact v.out 9991 h1 h2
theorem aqB{t t' w:Nat}{y z:Operand}{u v:Value}(us bs:List Int)(ho:o.op= .binOp .neq t y z t')[EV x.P t w][n:NS x.P t](hy:ev ρ y=some u)(hz:ev ρ z=some v)(hu:u= .agg (us.map nI).toArray)(hv:v= .agg (bs.map nI).toArray)(h1:us.length=w)(h2:bs.length=w):Yv x S ρ o (.bool (!decide (us=bs))):=fun e he F hF h' hE=>by
 subst hu hv
 have hg:∀{β:Type} {f:Unit→Sem β} {Q:β→eG→Prop},tr x.P h' ((eqGuard .neq t y z (.agg (us.map nI).toArray) (.agg (bs.map nI).toArray)).bind f) F Q=tr x.P h' (f ()) F Q:=by
  intro β f Q
  simp only[eqGuard,bind_eq,gq,bind_assoc,l7,n.guard,Bool.not_false,if_true,bind_pure,Bool.not_true,Bool.false_eq_true,if_false]
 simp only[execOp,ho,he y _ hy,he z _ hz,bind_eq,gq,bind_assoc,hg,binOp,X7 h1 h2]
 exact⟨rfl,rfl⟩
end rules
end Go.aS

/- Maps whose keys are of numbers alone. Conditions: none; over any program. -/
namespace Go.aS
def aEA(P:Program)(t:TypeId)(w K:Nat):Prop:=∀{h:Hp} {F:eG} {β:Type} {f:Unit→Sem β} {Q:β→eG→Prop} (em:Bool) (d:Nat) {xs:Array Value} {off:Nat} {us:List Int},us.length=w→Part xs off (us.map nI)→
 tr P h ((part t xs off).bind fun x=>(Instr.checkKey em (d+K) t x).bind f) F Q=tr P h (f ()) F Q
def CkV(P:Program)(t:TypeId)(w K:Nat):Prop:=∀{h:Hp} {F:eG} {β:Type} {f:Unit→Sem β} {Q:β→eG→Prop} (em:Bool) (d:Nat) {us:List Int},us.length=w→
 tr P h ((Instr.checkKey em (d+K) t (.agg (us.map nI).toArray)).bind f) F Q=tr P h (f ()) F Q
theorem aEA.int{P:Program}{t:TypeId}[TD P t (.int .i64)][SC P t]:aEA P t 1 1:=by
 intro hp F β f Q em d xs off us h1 h3
 obtain⟨a,rfl⟩:=List.length_eq_one_iff.1 h1
 have e1:xs[off]? =some (nI a):=h3.get (j:=0) (by simp)
 rw[lT e1]
 simp only[Instr.checkKey,bind_eq,gq,bind_assoc,bind_pure,aC]
theorem CkV.at{P:Program}{t w K:Nat}(H:CkV P t w K)[AG P t w]:aEA P t w K:=by
 intro hp F β f Q em d xs off us h1 h3
 have e1:=h3.extract
 rw[List.length_map,h1]at e1
 rw[ru,e1]
 exact H em d h1
theorem CkV.le{P:Program}{t w K K':Nat}(H:CkV P t w K)(h:K≤K'):CkV P t w K':=by
 intro hp F β f Q em d us h1
 have:= @H hp F β f Q em (d+(K'-K)) us h1
 rwa[show d+(K'-K)+K=d+K' by omega]at this

def Qi(P:Program)(K:Nat):List Field→List Nat→Nat→Prop
 | [],[],_=>True
 | f::fs,w::ws,o=>f.name≠ "_" ∧f.offset=o∧aEA P f.type w K∧Qi P K fs ws (o+w)
 | _,_,_=>False
theorem Qi.nil{P:Program}{K o:Nat}:Qi P K [] [] o:=trivial
theorem Qi.cons{P:Program}{K o w:Nat}{f:Field}{fs:List Field}{ws:List Nat}(hn:f.name≠ "_")(ho:f.offset=o)(he:aEA P f.type w K)(hl:Qi P K fs ws (o+w)):Qi P K (f::fs) (w::ws) o:=⟨hn,ho,he,hl⟩
theorem aFy{P:Program}{K:Nat}{xs:Array Value}{hp:Hp}{F:eG}{β:Type}{Q:β→eG→Prop}(em:Bool)(d:Nat){g:PUnit→Sem β}:∀(fs:List Field) (ws:List Nat) (o:Nat) (us:List Int),Qi P K fs ws o→us.length=ws.sum→Part xs o (us.map nI)→
  tr P hp ((
       forIn fs PUnit.unit fun f __s=>
     if f.name≠ "_" then
      (
       part f.type xs f.offset).bind fun __do_lift=>
       (Instr.checkKey em (d+K) f.type __do_lift).bind fun r=>Sem.pure (ForInStep.yield PUnit.unit)
     else Sem.pure (ForInStep.yield PUnit.unit)).bind g) F Q=tr P hp (g PUnit.unit) F Q
 | [],[],o,us,_,h1,h3=>by
  simp only[List.forIn_nil,gq,bind_pure]
 | f::fs,w::ws,o,us,hl,h1,h3=>by
  obtain⟨hn,ho,he,hl⟩:=hl
  simp only[List.sum_cons]at h1
  obtain⟨p1,p2⟩:=h3.two (w:=w) (by omega)
  have e1:(us.take w).length=w:=by simp;omega
  subst ho
  simp only[List.forIn_cons,bind_eq,if_pos hn,bind_assoc]
  rw[he em d e1 p1]
  simp only[bind_pure]
  exact aFy em d fs ws _ (us.drop w) hl (by simp;omega) p2
 | [],_::_,_,_,hl,_,_=>hl.elim
 | _::_,[],_,_,hl,_,_=>hl.elim
theorem CkV.struct{P:Program}{t:TypeId}{fs:Array Field}{ws:List Nat}{K:Nat}[TD P t (.struct fs)](hl:Qi P K fs.toList ws 0):CkV P t ws.sum (K+1):=by
 intro hp F β f Q em d us h1
 show tr P hp ((Instr.checkKey em (d+K+1) t _).bind f) F Q=_
 simp only[Instr.checkKey,bind_eq,gq,bind_assoc,bind_pure,aC]
 rw[←Array.forIn_toList]
 exact aFy em d fs.toList ws 0 us hl h1 (Part.all _)
theorem Qj{P:Program}{E w K:Nat}{s:Nat}{z:Value}{zc:Array Value}[TI P E w s z zc]{xs:Array Value}{hp:Hp}{F:eG}{β:Type}{Q:β→eG→Prop}(he:aEA P E w K)(em:Bool)(d:Nat){g:PUnit→Sem β}:∀(n i:Nat) (us:List Int),us.length=n*w→Part xs (i*w) (us.map nI)→
  tr P hp ((
       forIn (List.range' i n) PUnit.unit fun i __s=>
     (
      sizeOf E).bind fun __do_lift=>
      (
       part E xs (i*__do_lift)).bind fun __do_lift=>
       (Instr.checkKey em (d+K) E __do_lift).bind fun r=>Sem.pure (ForInStep.yield PUnit.unit)).bind g) F Q=tr P hp (g PUnit.unit) F Q
 | 0,i,us,h1,h3=>by
  simp only[List.range'_zero,List.forIn_nil,gq,bind_pure]
 | n+1,i,us,h1,h3=>by
  rw[Nat.succ_mul]at h1
  obtain⟨p1,p2⟩:=h3.two (w:=w) (by omega)
  have e1:(us.take w).length=w:=by simp;omega
  have e3:i*w+w=(i+1)*w:=by rw[Nat.succ_mul]
  rw[e3]at p2
  simp only[List.range'_succ,List.forIn_cons,bind_eq,bind_assoc,dH]
  rw[he em d e1 p1]
  simp only[bind_pure]
  exact Qj he em d n (i+1) (us.drop w) (by simp;omega) p2
theorem CkV.array{P:Program}{t n E w K:Nat}{s:Nat}{z:Value}{zc:Array Value}[TD P t (.array n E)][TI P E w s z zc](he:aEA P E w K):CkV P t (n*w) (K+1):=by
 intro hp F β f Q em d us h1
 show tr P hp ((Instr.checkKey em (d+K+1) t _).bind f) F Q=_
 simp only[Instr.checkKey,bind_eq,gq,bind_assoc,bind_pure,aC]
 rw[Std.Legacy.Range.forIn_eq_forIn_range']
 have e:(Std.Legacy.Range.size [:n])=n:=by simp[Std.Legacy.Range.size]
 rw[e]
 exact Qj he em d n 0 us h1 (by rw[Nat.zero_mul];exact Part.all _)

class KV(P:Program)(t:TypeId)(w:outParam Nat):Prop where
 eq:EV P t w
 ck:CkV P t w 9
 ag:∃d,P.underlying t=some d∧((∃fs,d= .struct fs)∨∃n e,d= .array n e)

def aE9(es:Array MapEntry)(ks:List (List Int)):Prop:=es.toList.map (fun e=>(e.key,e.val))=ks.map fun a=>(Value.agg (a.map nI).toArray,Value.bool true)

section
variable{P:Program}{h:Hp}{F:eG}{β:Type}{Q:β→eG→Prop}{t w:Nat}
theorem aB1[k:KV P t w]{f:Unit→Sem β}{em:Bool}{us:List Int}(h1:us.length=w):tr P h ((Instr.checkKey em 10000 t (.agg (us.map nI).toArray)).bind f) F Q=tr P h (f ()) F Q:=by
 have e:(10000:Nat)=9991+9:=rfl
 rw[e]
 exact k.ck em 9991 h1

def keyAt(k:List Int):List (List Int)→Nat→Option (Nat×Value)
 | [],_=>none
 | a::ks,i=>if k=a then some (i,.bool true)else keyAt k ks (i+1)
theorem aCW{k:List Int}:∀{ks:List (List Int)} {i:Nat} {r:Nat×Value},keyAt k ks i=some r→r.2= .bool true∧k∈ks∧∃j,r.1=i+j∧ks[j]? =some k
 | [],_,_,h=>by cases h
 | a::ks,i,r,h=>by
  simp only[keyAt]at h
  split at h
  ·rename_i e
   cases h
   subst e
   exact⟨rfl,List.mem_cons_self ..,0,rfl,rfl⟩
  ·obtain⟨h1,h2,j,h3,h4⟩:=aCW h
   exact⟨h1,List.mem_cons_of_mem _ h2,j+1,by rw[h3];omega,by simpa using h4⟩
theorem aCX{k:List Int}:∀{ks:List (List Int)} {i:Nat},keyAt k ks i=none→k∉ks
 | [],_,_=>by simp
 | a::ks,i,h=>by
  simp only[keyAt]at h
  split at h
  ·cases h
  ·rename_i e
   simp[e,aCX h]

theorem aCA[k:KV P t w]{f:Option (Nat×Value)→Sem β}{a:List Int}(h1:a.length=w):∀{ks:List (List Int)} {l:List MapEntry} {i:Nat},(∀b∈ks,b.length=w)→l.map (fun e=>(e.key,e.val))=ks.map (fun a=>(Value.agg (a.map nI).toArray,Value.bool true))→
  tr P h ((Instr.findAsking t (.agg (a.map nI).toArray) l i).bind f) F Q=tr P h (f (keyAt a ks i)) F Q
 | [],l,i,hw,hm=>by
  have:l=[]:=by simpa using hm
  subst this
  simp only[Instr.findAsking,gq,bind_pure,keyAt]
 | b::ks,[],i,hw,hm=>by cases hm
 | b::ks,e::l,i,hw,hm=>by
  simp only[List.map_cons,List.cons.injEq,Prod.mk.injEq]at hm
  obtain⟨⟨hk,hv⟩,hm⟩:=hm
  have:=k.eq
  simp only[Instr.findAsking,bind_eq,gq,bind_assoc,hk,X7 h1 (hw b (List.mem_cons_self ..))]
  by_cases hab:a=b
  ·simp only[hab,decide_true,if_true,bind_pure,keyAt,hv]
  ·simp only[hab,decide_false,Bool.false_eq_true,if_false,keyAt]
   exact aCA h1 (fun c hc=>hw c (List.mem_cons_of_mem _ hc)) hm
theorem aEB[k:KV P t w]{f:Option (Nat×Value)→Sem β}{a:List Int}(h1:a.length=w){ks:List (List Int)}{es:Array MapEntry}(hw:∀b∈ks,b.length=w)(hm:aE9 es ks):
  tr P h ((Instr.findKey t (.agg (a.map nI).toArray) es.toList).bind f) F Q=tr P h (f (keyAt a ks 0)) F Q:=by
 obtain⟨d,hd,hda⟩:=k.ag
 have:TD P t d:=⟨hd⟩
 simp only[Instr.findKey,bind_eq,gq,bind_assoc,aC]
 have hm':=hm
 unfold aE9 at hm'
 cases hl:es.toList with
 | nil=>
  rw[hl]at hm'
  have:ks=[]:=by simpa using hm'.symm
  subst this
  simp only[Instr.findNow,bind_pure,keyAt]
 | cons e l=>
  have hn:Instr.findNow d (.agg (a.map nI).toArray) (e::l) 0=none:=by
   have:Instr.sameNow d (.agg (a.map nI).toArray) e.key=none:=by
    rcases hda with⟨fs,rfl⟩ | ⟨n,el,rfl⟩ <;>rfl
   simp only[Instr.findNow,this]
  simp only[hn]
  rw[←hl]
  exact aCA h1 hw hm'
end
theorem aE_:∀(n:Nat) (us:List Int),Instr.sameBits (n+2) (.agg (us.map nI).toArray) (.agg (us.map nI).toArray)=true:=by
 intro n us
 simp only[Instr.sameBits,beq_self_eq_true,Bool.true_and,List.all_eq_true]
 intro p hp
 have key:∀(l:List Value) (p:Value×Value),p∈l.zip l→p.1=p.2∧p.1∈l:=by
  intro l
  induction l with
  | nil=>intro p hp;cases hp
  | cons a l ih=>
   intro p hp
   rcases List.mem_cons.1 hp with rfl | hp
   ·exact⟨rfl,List.mem_cons_self ..⟩
   ·obtain⟨h1,h2⟩:=ih p hp
    exact⟨h1,List.mem_cons_of_mem _ h2⟩
 obtain⟨h1,h2⟩:=key _ p hp
 obtain⟨a,_,ha⟩:=List.mem_map.1 h2
 obtain⟨u,v⟩:=p
 simp only at h1 ha
 subst h1 ha
 simp[Instr.sameBits]

theorem aEC{α β:Type}{g:α→β}{f:α→α}:∀{l:List α} {i:Nat},(∀x,l[i]? =some x→g (f x)=g x)→(l.modify i f).map g=l.map g
 | [],i,_=>by cases i <;>rfl
 | a::l,0,h=>by
  show g (f a)::l.map g=_
  rw[h a rfl];rfl
 | a::l,i+1,h=>by
  have:=aEC (l:=l) (i:=i) (f:=f) (g:=g) fun x hx=>h x (by simpa using hx)
  rw[List.modify_succ_cons,List.map_cons,this,List.map_cons]

section rules
variable{x:Cx}{ρ:Env}{F:eG}{S:eG→Prop}{o:Oper}{R:Value→eG→Prop}
theorem Md{t:Nat}(ho:o.op= .makeMap t none)(H:∀β,x.h β=none→(∀o,(β,o)∉F)→R (.map (some β)) ((β,.map #[] 0)::F)):Ef x ρ o F R:=
 Ef.xW fun e he h' hE=>by
  simp only[execOp,ho,Instr.makeMap,Option.map_none,bind_eq,gq,bind_assoc,bind_pure]
  exact⟨(fun h=>by cases h),fun r h5 h6=>⟨_,.inl rfl,H r (hE.none h5) h6⟩⟩
theorem aJc{t kt vt w s b:Nat}{y k:Operand}{β clock:Nat}{es:Array MapEntry}{ks:List (List Int)}{a:List Int}{u:Value}{U:Obj→eG}(ho:o.op= .lookup t y k false)[TD x.P t (.map kt vt)][KV x.P kt w][TI x.P vt s b (.bool false) #[.bool false]](hy:ev ρ y=some (.map (some β)))(hk:ev ρ k=some u)(hu:u= .agg (a.map nI).toArray)(h1:a.length=w)(hl:At β (.map es clock) F U)(hm:aE9 es ks)(hw:∀b∈ks,b.length=w)
  (H:R (.bool (decide (a∈ks))) F):Ef x ρ o F R:=
 Ef.xW fun e he h' hE=>by
  subst hu
  obtain⟨F1,F2,e1,e2⟩:=hl.split
  simp only[execOp,ho,he y _ hy,he k _ hk,Instr.lookup,bind_eq,gq,bind_assoc,bind_pure,aC,Bool.false_eq_true,if_false]
  refine⟨.map es clock,.inr (by rw[e1];simp),(fun _ _ _=>by simp),rfl,?_⟩
  simp only[gq,bind_pure,bind_assoc]
  rw[aB1 h1,aEB h1 hw hm]
  cases hf:keyAt a ks 0 with
  | none=>
   have hn:=aCX hf
   simp only[hn,decide_false]at H
   simp only[bind_assoc]
   rw[fG (P:=x.P) (t:=vt)]
   simp only[bind_pure]
   exact⟨_,.inl rfl,H⟩
  | some r=>
   obtain⟨i,v⟩:=r
   obtain⟨h5,h6,_⟩:=aCW hf
   simp only at h5
   subst h5
   simp only[h6,decide_true]at H
   simp only[bind_pure]
   exact⟨_,.inl rfl,H⟩
theorem aDP{t kt vt w:Nat}{y k v:Operand}{β clock:Nat}{es:Array MapEntry}{ks:List (List Int)}{a:List Int}{u:Value}{U:Obj→eG}(ho:o.op= .mapUpdate t y k v)[TD x.P t (.map kt vt)][KV x.P kt w](hy:ev ρ y=some (.map (some β)))(hk:ev ρ k=some u)(hu:u= .agg (a.map nI).toArray)(hv:ev ρ v=some (.bool true))(h1:a.length=w)(hl:At β (.map es clock) F U)(hm:aE9 es ks)(hw:∀b∈ks,b.length=w)
  (H:∀es' clock',aE9 es' (if a∈ks then ks else ks++[a])→R undef (U (.map es' clock'))):Ef x ρ o F R:=
 Ef.xW fun e he h' hE=>by
  subst hu
  obtain⟨F1,F2,e1,e2⟩:=hl.split
  simp only[execOp,ho,he y _ hy,he k _ hk,he v _ hv,Instr.mapUpdate,bind_eq,gq,bind_assoc,bind_pure,aC]
  refine⟨.map es clock,.inr (by rw[e1];simp),(fun _ _ _=>by simp),rfl,?_⟩
  simp only[gq,bind_pure,bind_assoc]
  rw[aB1 h1,aEB h1 hw hm]
  cases hf:keyAt a ks 0 with
  | none=>
   have hn:=aCX hf
   simp only[hn,if_false]at H
   refine⟨.map es clock,F1,F2,e1,(fun _ _ _=>by simp),rfl,?_⟩
   have:=H (es.push {key:=.agg (a.map nI).toArray,val:=.bool true,born:=clock}) (clock+1) (by
    unfold aE9 at hm⊢
    simp[hm])
   rw[e2]at this
   exact⟨_,.inr ⟨rfl,rfl⟩,this⟩
  | some r=>
   obtain⟨i,v'⟩:=r
   obtain⟨h5,h6,j,h7,h8⟩:=aCW hf
   simp only[Nat.zero_add]at h7
   subst h7
   simp only[h6,if_true]at H
   have hes:∃me,es.toList[i]? =some me∧me.key= .agg (a.map nI).toArray∧me.val= .bool true:=by
    have h9:=congrArg (·[i]?) hm
    simp only[List.getElem?_map,h8,Option.map_some]at h9
    obtain⟨me,h10,h11⟩:=Option.map_eq_some_iff.1 h9
    simp only[Prod.mk.injEq]at h11
    exact⟨me,h10,h11.1,h11.2⟩
   obtain⟨me,hme,hmk,hmv⟩:=hes
   have hes2:es[i]? =some me:=by rw[←Array.getElem?_toList];exact hme
   simp only[hes2,Option.map_some,Option.getD_some,hmk,Instr.keyThatStays,bind_eq,gq]
   rw[if_pos (aE_ 9998 a)]
   simp only[bind_pure,bind_assoc]
   refine⟨.map es clock,F1,F2,e1,(fun _ _ _=>by simp),rfl,?_⟩
   have:=H (es.modify i fun e=>{e with key:=.agg (a.map nI).toArray,val:=.bool true}) clock (by
    unfold aE9 at hm⊢
    rw[Array.toList_modify,aEC,hm]
    intro y hy
    rw[hme]at hy
    cases hy
    simp[hmk,hmv])
   rw[e2]at this
   exact⟨_,.inr ⟨rfl,rfl⟩,this⟩
end rules
end Go.aS

/- Comparing numbers in structs and arrays; plans as keys. Conditions: none; over the given program. -/
namespace Go.aS
set_option maxRecDepth 100000
set_option maxHeartbeats 4000000
instance:NS prog ayj:=⟨by kernel_rfl,by kernel_rfl⟩
instance:NS prog aw3:=⟨by kernel_rfl,by kernel_rfl⟩
instance:NS prog az4:=⟨by kernel_rfl,by kernel_rfl⟩
instance:NS prog ayG:=⟨by kernel_rfl,by kernel_rfl⟩
theorem ei:EqAt prog dL 1 1:=EqAt.int
theorem ckI:aEA prog dL 1 1:=aEA.int
theorem aFz:V7 prog aw3 2 2:=by
 refine V7.struct (ws:=[1,1]) (K:=1) ?_
 exact(Lay.cons (by decide) rfl ei (Lay.cons (by decide) rfl ei Lay.nil))
theorem aJd:V7 prog zl 8 3:=V7.array (n:=4) (w:=2) (K:=2) aFz.at
instance:EV prog aw3 2:=⟨aFz.le (by decide)⟩
instance:EV prog zl 8:=⟨aJd.le (by decide)⟩
theorem aIj:CkV prog aw3 2 2:=by
 refine CkV.struct (ws:=[1,1]) (K:=1) ?_
 exact(Qi.cons (by decide) rfl ckI (Qi.cons (by decide) rfl ckI Qi.nil))
theorem aJe:CkV prog zl 8 3:=CkV.array (n:=4) (w:=2) (K:=2) aIj.at
instance:KV prog zl 8:=⟨inferInstance,aJe.le (by decide),_,TD.out,.inr ⟨_,_,rfl⟩⟩

def aBo(p:List Be):List Int:=p.flatMap fun b=>[b.fl,b.day]
theorem aF5(p:List Be):adu p= .agg ((aBo p).map nI).toArray:=by
 have e:flat Be.row p=(aBo p).map nI:=by
  induction p with
  | nil=>rfl
  | cons b p ih=>rw[iV,ih];rfl
 rw[adu,e]
theorem aAP{p:List Be}(h:p.length=4):(aBo p).length=8:=by
 obtain⟨a,b,c,d,rfl⟩:=four h;rfl
theorem aGB:∀{p q:List Be},p.length=q.length→aBo p=aBo q→p=q
 | [],[],_,_=>rfl
 | a::p,b::q,h,e=>by
  simp only[aBo,List.flatMap_cons,List.cons_append,List.nil_append,List.cons.injEq]at e
  obtain⟨e1,e2,e3⟩:=e
  rw[aGB (by simpa using h) e3]
  obtain⟨x,y⟩:=a
  obtain⟨z,w⟩:=b
  cases e1;cases e2;rfl

/-! Loaves, and the best plans -/
def azg(ss:List St)(p:List Be):Nat→Int
 | 0=>0
 | k+1=>if 0≤(qw p k).fl then aAz (azg ss p k) (ax6 ss k).co else azg ss p k
def awM(ss:List St)(p:List Be):Int:=azg ss p ss.length
theorem aIk(main:Side)(h:Hp)(fs:List Fl)(ss:List St)(p:List Be)(vf vs:Value)(hf:Sl h Fl.row vf fs)(hs:Sl h St.row vs ss)(hp:aAy p)(hn:ss.length≤4):Pu prog main azy #[.agg #[vf,vs],adu p] h (I (awM ss p)):=by
 obtain⟨a,cap,rfl⟩:=hf.dA
 obtain⟨a',cap',rfl⟩:=hs.dA
 have hsz:=ay0 hp
 refine dV.aG aBD rfl (by show 2≤28;decide) [(0,.agg #[.slice a fs.length cap,.slice a' ss.length cap']),(1,adu p)] ⟨rfl,rfl,trivial⟩ ?_
 refine W.seq<|W.region rfl ?_
 refine Ops.box (fun yR=>?_)
 refine Ops.box (fun uU=>?_)
 refine agb rfl rfl rfl<|pq<|W.seq<|W.region rfl<|agb rfl rfl rfl<|pq<|W.seq<|W.seq ?_
 refine W.region rfl ?_
 refine agY rfl ?_
 refine agY rfl ?_
 refine agX rfl ?_
 refine agW (dM rfl rfl) rfl ?_
 refine qm rfl rfl rfl<|pq<|W.block ?_
 refine W.loop (σ:=Nat) (fun k=>k≤ss.length) (fun k=>[(12,I k),(11,I ss.length),(10,.slice a' ss.length cap'),(5,I (azg ss p k)),(3,.pointer (some ⟨uU,0,none⟩))]) (fun _=>[(uU,.cells (flat Be.row p).toArray zl (0,0))]) (fun k=>ss.length-k) 0 (Nat.zero_le _) ⟨rfl,rfl,rfl,rfl,rfl,trivial⟩ TW ?_
 rintro k hk
 refine W.seq<|W.region rfl ?_
 refine agW (fO rfl rfl rfl) rfl ?_
 refine pq<|W.seq ?_
 refine W.bC rfl (fun c13=>?_) (fun c13=>?_)
 ·obtain⟨x,hx,-⟩:=has (show k<ss.length by omega)
  have hxe:ax6 ss k=x:=by simp[ax6,List.getD,hx]
  obtain⟨b,off,c,E,fz,rfl,hb,hx1,hy1,hz1⟩:=hs.at hx
  have hx2:c.extract (off+k*3) (off+k*3+3)= #[I x.day,I x.co,I x.wa]:=hx1
  clear hx1 hz1
  have hk4:k<4:=by omega
  have hpa:(flat Be.row p).toArray[0+k*2+0]? =some (I (qw p k).fl):=by simpa using(aD3 hp hk4).1
  refine W.skip<|aA<|W.seq<|W.block<|W.seq<|W.region rfl<|qm rfl rfl rfl ?_
  refine ag3 rfl ?_
  first | refine ag2 rfl ?_ | refine agW (ady rfl rfl) rfl ?_
  refine Ops.new (fun Vo=>?_)
  refine agb rfl rfl rfl ?_
  first | refine Ops.jP ?_ | refine Ops.nY ?_
  refine pq<|W.seq<|W.region rfl<|qm rfl rfl rfl ?_
  first | refine agW (UN rfl rfl rfl) rfl ?_ | refine agW (Qg rfl rfl rfl) rfl ?_
  refine agY rfl ?_
  refine agX rfl ?_
  refine agW (IJ rfl rfl rfl) rfl ?_
  refine pq ?_
  refine W.bC rfl (fun c21=>?_) (fun c21=>?_)
  ·refine W.region rfl<|qm rfl rfl rfl ?_
   refine agY rfl ?_
   refine agX rfl ?_
   refine ag1 rfl ?_
   refine agb rfl rfl rfl<|Ops.nil<|dI<|aA<|W.region rfl ?_
   refine ag1 rfl ?_
   refine qm rfl rfl rfl<|pq ?_
   first
   | exact⟨rfl,k+1,by omega,by omega,⟨rfl,rfl,rfl,lk rfl (show I _=I _ by congr 1;simp only[azg];rw[if_pos c21,hxe]),rfl,trivial⟩,TW⟩
   | exact⟨rfl,k+1,by omega,by omega,⟨rfl,rfl,rfl,lk rfl (show I _=I _ by congr 1;simp only[azg];rw[if_neg c21]),rfl,trivial⟩,TW⟩
  ·refine W.skip<|dI<|aA<|W.region rfl ?_
   refine ag1 rfl ?_
   refine qm rfl rfl rfl<|pq ?_
   first
   | exact⟨rfl,k+1,by omega,by omega,⟨rfl,rfl,rfl,lk rfl (show I _=I _ by congr 1;simp only[azg];rw[if_pos c21,hxe]),rfl,trivial⟩,TW⟩
   | exact⟨rfl,k+1,by omega,by omega,⟨rfl,rfl,rfl,lk rfl (show I _=I _ by congr 1;simp only[azg];rw[if_neg c21]),rfl,trivial⟩,TW⟩
 ·refine W.exit<|bP<|bP<|gG<|aA<|W.seq<|W.region rfl<|qm rfl rfl rfl<|agb rfl rfl rfl<|Ops.nil ?_
  refine aA<|W.ret ?_
  refine uZ ?_
  rw[awM,show ss.length=k by omega];rfl
end Go.aS

/- The best plans. Conditions: none; over the given program. -/
namespace Go.aS
set_option maxRecDepth 100000
set_option maxHeartbeats 4000000
def WA(s:Int×List (List Be))(p:List Be)(n:Int):Int×List (List Be):=
  let s':=if s.2=[]∨s.1<n then(n,[])else s
  if n=s'.1 then(s'.1,s'.2++[p])else s'

theorem aK9(main:Side)(h:Hp)(bm:Nat)(c n:Int)(v:Value)(l:List (List Be))(p:List Be)(S:eG)(hO:Os zl rowP v l S)(hl:l.length≤100000)(Du:p.length=4):dV prog main ay8 #[.pointer (some ⟨bm,0,none⟩),adu p,I n] h ((bm,.cells #[I c,v] aCQ (0,0))::S) (fun _ A'=>∃v' S',Os zl rowP v' (WA (c,l) p n).2 S'∧Sb ((bm,.cells #[I (WA (c,l) p n).1,v'] aCQ (0,0))::S') A'):=by
  obtain⟨a,cap,rfl⟩:=hO.dA
  have hsz:(flat Be.row p).toArray.size=8:=by simp[jT,Du]
  have hon:ones (flat Be.row p).toArray.toList=true:=aza
  refine dV.aG aDb rfl (by show 3≤43;decide) [(0,.pointer (some ⟨bm,0,none⟩)),(1,adu p),(2,I n)] ⟨rfl,rfl,rfl,trivial⟩ ?_
  refine W.seq<|W.region rfl ?_
  refine Ops.box (fun wC=>?_)
  refine pq<|W.seq<|W.seq<|W.region rfl<|qm rfl rfl rfl ?_
  refine ag4 rfl ?_
  refine agY rfl ?_
  refine agX rfl ?_
  refine agW (dM rfl rfl) rfl ?_
  refine agW (nD rfl rfl rfl) rfl ?_
  refine qm rfl rfl rfl ?_
  refine Ops.ask (fun adW=>?_) (fun adW=>?_)
  · refine Ops.no ?_
    refine Ops.no ?_
    refine Ops.no ?_
    refine Ops.no ?_
    refine Ops.no ?_
    refine Ops.no ?_
    refine agW (dG rfl rfl rfl) rfl ?_
    refine pq ?_
    refine W.dW ?_
    refine W.region rfl<|qm rfl rfl rfl<|qm rfl rfl rfl<|qm rfl rfl rfl ?_
    refine ag4 rfl ?_
    refine agY rfl ?_
    refine Ops.yG ?_
    refine ag4 rfl ?_
    refine agY rfl ?_
    refine Ops.yG ?_
    refine pq<|W.seq<|W.region rfl<|qm rfl rfl rfl<|qm rfl rfl rfl ?_
    refine ag4 rfl ?_
    refine agY rfl ?_
    refine agX rfl ?_
    refine agW (nD rfl rfl rfl) rfl ?_
    refine pq ?_
    refine W.bC rfl (fun c32=>?_) (fun c32=>?_)
    · refine W.Ap (n:=11) rfl ?_
      refine dn 0 (aN rfl rfl) rfl ?_
      refine dn 1 (aN rfl rfl) rfl ?_
      first | refine dn 2 (bg rfl rfl) rfl ?_ | refine dn 2 (aT rfl rfl) rfl ?_
      refine dn 3 (ay rfl rfl) rfl ?_
      refine dn 4 (iQ rfl rfl) rfl ?_
      first | refine dn 5 (Bf rfl rfl) rfl ?_ | refine dn 5 (zi rfl rfl) rfl ?_ | refine dn 5 (ady rfl rfl) rfl ?_
      refine abl (i:=6) (cs:=(flat Be.row p).toArray) (fun aET=>?_) rfl (hf:=by exact aAN Du)
      first
      | refine ae (i:=7) rfl an rfl rfl (iW (row:=rowP) (l:=[]) (l':=[p]) rfl rfl rfl (Os.nil hO.shut) (.tail (.tail (.tail .all))) (fun h2 _ hl=>Sl.mk (hl aET _ (.head _)) rfl (ayE Du)) (by simp) (by decide) rfl (fun v' S' Ie=>?_))
      | refine ae (i:=7) rfl an rfl rfl (iW (row:=rowP) (l':=[p]) rfl rfl rfl hO (.tail (.tail (.tail .all))) (fun h2 _ hl=>Sl.mk (hl aET _ (.head _)) rfl (ayE Du)) (by simp;omega) (by decide) rfl (fun v' S' Ie=>?_))
      refine⟨.inr (fun q hq=>?_),?_⟩
      · rcases List.mem_cons.1 hq with rfl | hq
        · exact .tail _ (.head _)
        · rcases List.mem_cons.1 hq with rfl | hq
          · exact .tail _ (.tail _ (.head _))
          · cases hq
      obtain⟨asl,csl,rfl⟩:=Ie.dA
      first | refine dn 8 (bg rfl rfl) rfl ?_ | refine dn 8 (aT rfl rfl) rfl ?_
      refine dn 9 (ay rfl rfl) rfl ?_
      refine ae (i:=10) rfl an rfl rfl (eS rfl rfl rfl ?_)
      refine⟨.inl (by kernel_rfl),?_⟩
      refine az ?_
      refine mg (vs:=[]) ?_
      first
      | (
         have hl0:l=[]:=List.length_eq_zero_iff.1 (by omega)
         subst hl0
         have e:WA (c,[]) p n=(n,[p]):=by simp[WA]
         rw[e]
         exact⟨_,S',Ie,.skip rfl (.skip rfl .refl)⟩)
      | (
         have hl0:l≠[]:=by rintro rfl;simp at adW
         have e:WA (c,l) p n=(n,[p]):=by simp[WA,c19]
         rw[e]
         exact⟨_,S',Ie,.skip rfl (.skip rfl .refl)⟩)
      | (
         have hl0:l≠[]:=by rintro rfl;simp at adW
         have e:WA (c,l) p n=(c,l++[p]):=by simp[WA,hl0,c19,c32]
         rw[e]
         exact⟨_,S',Ie,.skip rfl (.skip rfl .refl)⟩)
      | (
         have hl0:l≠[]:=by rintro rfl;simp at adW
         have e:WA (c,l) p n=(c,l):=by simp[WA,hl0,c19,c32]
         rw[e]
         exact⟨_,S,hO,.skip rfl .refl⟩)
      | exact absurd rfl c32
    · refine W.skip ?_
      refine mg (vs:=[]) ?_
      first
      | (
         have hl0:l=[]:=List.length_eq_zero_iff.1 (by omega)
         subst hl0
         have e:WA (c,[]) p n=(n,[p]):=by simp[WA]
         rw[e]
         exact⟨_,S',Ie,.skip rfl (.skip rfl .refl)⟩)
      | (
         have hl0:l≠[]:=by rintro rfl;simp at adW
         have e:WA (c,l) p n=(n,[p]):=by simp[WA,c19]
         rw[e]
         exact⟨_,S',Ie,.skip rfl (.skip rfl .refl)⟩)
      | (
         have hl0:l≠[]:=by rintro rfl;simp at adW
         have e:WA (c,l) p n=(c,l++[p]):=by simp[WA,hl0,c19,c32]
         rw[e]
         exact⟨_,S',Ie,.skip rfl (.skip rfl .refl)⟩)
      | (
         have hl0:l≠[]:=by rintro rfl;simp at adW
         have e:WA (c,l) p n=(c,l):=by simp[WA,hl0,c19,c32]
         rw[e]
         exact⟨_,S,hO,.skip rfl .refl⟩)
      | exact absurd rfl c32
  · refine oq (aN rfl rfl) rfl (ak rfl rfl rfl) rfl rfl ?_
    refine oq (aN rfl rfl) rfl (ak rfl rfl rfl) rfl rfl ?_
    first | refine oq (bg rfl rfl) rfl (ak rfl rfl rfl) rfl rfl ?_ | refine oq (aT rfl rfl) rfl (ak rfl rfl rfl) rfl rfl ?_
    refine oq (ay rfl rfl) rfl (ak rfl rfl rfl) rfl rfl ?_
    refine oq (iQ rfl rfl) rfl (ak rfl rfl rfl) rfl rfl ?_
    refine oq (rC rfl rfl rfl) rfl (ak rfl rfl rfl) rfl rfl ?_
    refine agW (iH rfl rfl rfl) rfl ?_
    refine pq ?_
    refine W.bC rfl (fun c19=>?_) (fun c19=>?_)
    · refine W.region rfl<|qm rfl rfl rfl<|qm rfl rfl rfl<|qm rfl rfl rfl ?_
      refine ag4 rfl ?_
      refine agY rfl ?_
      refine Ops.yG ?_
      refine ag4 rfl ?_
      refine agY rfl ?_
      refine Ops.yG ?_
      refine pq<|W.seq<|W.region rfl<|qm rfl rfl rfl<|qm rfl rfl rfl ?_
      refine ag4 rfl ?_
      refine agY rfl ?_
      refine agX rfl ?_
      refine agW (nD rfl rfl rfl) rfl ?_
      refine pq ?_
      refine W.bC rfl (fun c32=>?_) (fun c32=>?_)
      · refine W.Ap (n:=11) rfl ?_
        refine dn 0 (aN rfl rfl) rfl ?_
        refine dn 1 (aN rfl rfl) rfl ?_
        first | refine dn 2 (bg rfl rfl) rfl ?_ | refine dn 2 (aT rfl rfl) rfl ?_
        refine dn 3 (ay rfl rfl) rfl ?_
        refine dn 4 (iQ rfl rfl) rfl ?_
        first | refine dn 5 (Bf rfl rfl) rfl ?_ | refine dn 5 (zi rfl rfl) rfl ?_ | refine dn 5 (ady rfl rfl) rfl ?_
        refine abl (i:=6) (cs:=(flat Be.row p).toArray) (fun aET=>?_) rfl (hf:=by exact aAN Du)
        first
        | refine ae (i:=7) rfl an rfl rfl (iW (row:=rowP) (l:=[]) (l':=[p]) rfl rfl rfl (Os.nil hO.shut) (.tail (.tail (.tail .all))) (fun h2 _ hl=>Sl.mk (hl aET _ (.head _)) rfl (ayE Du)) (by simp) (by decide) rfl (fun v' S' Ie=>?_))
        | refine ae (i:=7) rfl an rfl rfl (iW (row:=rowP) (l':=[p]) rfl rfl rfl hO (.tail (.tail (.tail .all))) (fun h2 _ hl=>Sl.mk (hl aET _ (.head _)) rfl (ayE Du)) (by simp;omega) (by decide) rfl (fun v' S' Ie=>?_))
        refine⟨.inr (fun q hq=>?_),?_⟩
        · rcases List.mem_cons.1 hq with rfl | hq
          · exact .tail _ (.head _)
          · rcases List.mem_cons.1 hq with rfl | hq
            · exact .tail _ (.tail _ (.head _))
            · cases hq
        obtain⟨asl,csl,rfl⟩:=Ie.dA
        first | refine dn 8 (bg rfl rfl) rfl ?_ | refine dn 8 (aT rfl rfl) rfl ?_
        refine dn 9 (ay rfl rfl) rfl ?_
        refine ae (i:=10) rfl an rfl rfl (eS rfl rfl rfl ?_)
        refine⟨.inl (by kernel_rfl),?_⟩
        refine az ?_
        refine mg (vs:=[]) ?_
        first
        | (
           have hl0:l=[]:=List.length_eq_zero_iff.1 (by omega)
           subst hl0
           have e:WA (c,[]) p n=(n,[p]):=by simp[WA]
           rw[e]
           exact⟨_,S',Ie,.skip rfl (.skip rfl .refl)⟩)
        | (
           have hl0:l≠[]:=by rintro rfl;simp at adW
           have e:WA (c,l) p n=(n,[p]):=by simp[WA,c19]
           rw[e]
           exact⟨_,S',Ie,.skip rfl (.skip rfl .refl)⟩)
        | (
           have hl0:l≠[]:=by rintro rfl;simp at adW
           have e:WA (c,l) p n=(c,l++[p]):=by simp[WA,hl0,c19,c32]
           rw[e]
           exact⟨_,S',Ie,.skip rfl (.skip rfl .refl)⟩)
        | (
           have hl0:l≠[]:=by rintro rfl;simp at adW
           have e:WA (c,l) p n=(c,l):=by simp[WA,hl0,c19,c32]
           rw[e]
           exact⟨_,S,hO,.skip rfl .refl⟩)
        | exact absurd rfl c32
      · refine W.skip ?_
        refine mg (vs:=[]) ?_
        first
        | (
           have hl0:l=[]:=List.length_eq_zero_iff.1 (by omega)
           subst hl0
           have e:WA (c,[]) p n=(n,[p]):=by simp[WA]
           rw[e]
           exact⟨_,S',Ie,.skip rfl (.skip rfl .refl)⟩)
        | (
           have hl0:l≠[]:=by rintro rfl;simp at adW
           have e:WA (c,l) p n=(n,[p]):=by simp[WA,c19]
           rw[e]
           exact⟨_,S',Ie,.skip rfl (.skip rfl .refl)⟩)
        | (
           have hl0:l≠[]:=by rintro rfl;simp at adW
           have e:WA (c,l) p n=(c,l++[p]):=by simp[WA,hl0,c19,c32]
           rw[e]
           exact⟨_,S',Ie,.skip rfl (.skip rfl .refl)⟩)
        | (
           have hl0:l≠[]:=by rintro rfl;simp at adW
           have e:WA (c,l) p n=(c,l):=by simp[WA,hl0,c19,c32]
           rw[e]
           exact⟨_,S,hO,.skip rfl .refl⟩)
        | exact absurd rfl c32
    · refine W.skip<|aA<|W.seq<|W.region rfl<|qm rfl rfl rfl<|qm rfl rfl rfl ?_
      refine ag4 rfl ?_
      refine agY rfl ?_
      refine agX rfl ?_
      refine agW (nD rfl rfl rfl) rfl ?_
      refine pq ?_
      refine W.bC rfl (fun c32=>?_) (fun c32=>?_)
      · refine W.Ap (n:=11) rfl ?_
        refine dn 0 (aN rfl rfl) rfl ?_
        refine dn 1 (aN rfl rfl) rfl ?_
        first | refine dn 2 (bg rfl rfl) rfl ?_ | refine dn 2 (aT rfl rfl) rfl ?_
        refine dn 3 (ay rfl rfl) rfl ?_
        refine dn 4 (iQ rfl rfl) rfl ?_
        first | refine dn 5 (Bf rfl rfl) rfl ?_ | refine dn 5 (zi rfl rfl) rfl ?_ | refine dn 5 (ady rfl rfl) rfl ?_
        refine abl (i:=6) (cs:=(flat Be.row p).toArray) (fun aET=>?_) rfl (hf:=by exact aAN Du)
        first
        | refine ae (i:=7) rfl an rfl rfl (iW (row:=rowP) (l:=[]) (l':=[p]) rfl rfl rfl (Os.nil hO.shut) (.tail (.tail (.tail .all))) (fun h2 _ hl=>Sl.mk (hl aET _ (.head _)) rfl (ayE Du)) (by simp) (by decide) rfl (fun v' S' Ie=>?_))
        | refine ae (i:=7) rfl an rfl rfl (iW (row:=rowP) (l':=[p]) rfl rfl rfl hO (.tail (.tail (.tail .all))) (fun h2 _ hl=>Sl.mk (hl aET _ (.head _)) rfl (ayE Du)) (by simp;omega) (by decide) rfl (fun v' S' Ie=>?_))
        refine⟨.inr (fun q hq=>?_),?_⟩
        · rcases List.mem_cons.1 hq with rfl | hq
          · exact .tail _ (.head _)
          · rcases List.mem_cons.1 hq with rfl | hq
            · exact .tail _ (.tail _ (.head _))
            · cases hq
        obtain⟨asl,csl,rfl⟩:=Ie.dA
        first | refine dn 8 (bg rfl rfl) rfl ?_ | refine dn 8 (aT rfl rfl) rfl ?_
        refine dn 9 (ay rfl rfl) rfl ?_
        refine ae (i:=10) rfl an rfl rfl (eS rfl rfl rfl ?_)
        refine⟨.inl (by kernel_rfl),?_⟩
        refine az ?_
        refine mg (vs:=[]) ?_
        first
        | (
           have hl0:l=[]:=List.length_eq_zero_iff.1 (by omega)
           subst hl0
           have e:WA (c,[]) p n=(n,[p]):=by simp[WA]
           rw[e]
           exact⟨_,S',Ie,.skip rfl (.skip rfl .refl)⟩)
        | (
           have hl0:l≠[]:=by rintro rfl;simp at adW
           have e:WA (c,l) p n=(n,[p]):=by simp[WA,c19]
           rw[e]
           exact⟨_,S',Ie,.skip rfl (.skip rfl .refl)⟩)
        | (
           have hl0:l≠[]:=by rintro rfl;simp at adW
           have e:WA (c,l) p n=(c,l++[p]):=by simp[WA,hl0,c19,c32]
           rw[e]
           exact⟨_,S',Ie,.skip rfl (.skip rfl .refl)⟩)
        | (
           have hl0:l≠[]:=by rintro rfl;simp at adW
           have e:WA (c,l) p n=(c,l):=by simp[WA,hl0,c19,c32]
           rw[e]
           exact⟨_,S,hO,.skip rfl .refl⟩)
        | exact absurd rfl c32
      · refine W.skip ?_
        refine mg (vs:=[]) ?_
        first
        | (
           have hl0:l=[]:=List.length_eq_zero_iff.1 (by omega)
           subst hl0
           have e:WA (c,[]) p n=(n,[p]):=by simp[WA]
           rw[e]
           exact⟨_,S',Ie,.skip rfl (.skip rfl .refl)⟩)
        | (
           have hl0:l≠[]:=by rintro rfl;simp at adW
           have e:WA (c,l) p n=(n,[p]):=by simp[WA,c19]
           rw[e]
           exact⟨_,S',Ie,.skip rfl (.skip rfl .refl)⟩)
        | (
           have hl0:l≠[]:=by rintro rfl;simp at adW
           have e:WA (c,l) p n=(c,l++[p]):=by simp[WA,hl0,c19,c32]
           rw[e]
           exact⟨_,S',Ie,.skip rfl (.skip rfl .refl)⟩)
        | (
           have hl0:l≠[]:=by rintro rfl;simp at adW
           have e:WA (c,l) p n=(c,l):=by simp[WA,hl0,c19,c32]
           rw[e]
           exact⟨_,S,hO,.skip rfl .refl⟩)
        | exact absurd rfl c32
end Go.aS
