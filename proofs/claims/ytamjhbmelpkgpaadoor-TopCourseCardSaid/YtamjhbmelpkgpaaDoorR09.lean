/- A boil at work is made. Conditions: none; over the given program. (And 8 texts more.) -/
import Derived.Test.YtamjhbmelpkgpaaDoorR08
import Derived.Test.YtamjhbmelpkgpaaDoorR07
import Derived.Test.YtamjhbmelpkgpaaDoorR06
import Derived.Conc.LeavingOf
import Derived.Conc.HoldsTime
import Derived.LaidLaws
import Derived.LaidHandle
import Derived.ChangeSlices
import Derived.WideShapes
import Derived.Carry
import Derived.RowKit
set_option linter.unusedVariables false
set_option linter.unusedSimpArgs false
set_option linter.unusedSectionVars false

/- A boil at work is made. Conditions: none; over the given program. -/
namespace Go.aS
set_option maxRecDepth 100000
set_option maxHeartbeats 1000000
theorem MG{α:Type}{l:List α}{i:Nat}{p:α}(h:l[i]? =some p):l.take (i+1)=l.take i++[p]:=by
 rw[List.take_add_one,h];rfl
theorem aAw(main:Side)(h:Hp)(vs vr vm vh:Value)(s0:Spn)(rs:List Int)(ms:Int×Int×Int)(hs:List Spn)(ok:ayl [s0] rs ms hs)(H:ayQ h vs vr vm vh [s0] rs ms hs):
  dV prog main axc #[axY vs vr vm vh] h [] (fun v A=>∃b β,v=bI b∧Sb [(b,ay0 vs vr vm vh β),(β,ax6 (axa s0 hs))] A):=by
 have hs0:=ok.sp s0 (List.mem_cons_self ..)
 have h5:=ok.h2
 have h1:=ok.h1
 have hb4:=ok.hp
 obtain⟨f0,h0,-⟩:=has (l:=hs) (i:=0) (by omega)
 have hm:=H.sm
 have hh:=H.hm
 obtain⟨a,cap,rfl⟩:=hh.dA
 obtain⟨bh,aym,ch,Eh,fzh,e3,hbh,hxh,hyh,-⟩:=hh.at h0
 cases e3
 have aCE:ch.extract (aym+0*2) (aym+0*2+2)= #[I f0.lo,I f0.hi]:=hxh
 clear hxh
 refine dV.aG ay7 rfl (by show 1≤26;decide) [(0,axY vs vr vm (.slice (some ⟨bh,aym,none⟩) hs.length cap))] ⟨rfl,trivial⟩ ?_
 refine W.seq<|W.region rfl ?_
 refine Ops.box (fun β1=>?_)
 refine agb rfl rfl rfl<|pq<|W.seq<|W.region rfl ?_
 first | refine ag2 rfl ?_ | refine agW (ady rfl rfl) rfl ?_
 refine oe rfl wn rfl rfl (Md rfl fun yC _ _=>?_)
 refine agW (eH (cs:= #[vs,vr,vm,.slice (some ⟨bh,aym,none⟩) hs.length cap,.slice none 0 0,.map (some yC)]) rfl rfl (by kernel_rfl)) rfl ?_
 refine Ops.box (fun yD=>?_)
 refine Ops.new (fun uU=>?_)
 refine Ops.yG ?_
 refine pq<|W.seq<|W.seq ?_
 refine W.DR [(uU,.cells #[bI yD] awL (0,0)),(β1,.cells (awE vs vr vm (.slice (some ⟨bh,aym,none⟩) hs.length cap)) zf (0,0))] (n:=8) rfl ?_
 refine xq 0 (iQ rfl rfl) rfl ?_
 refine xq 1 (ay rfl rfl) rfl ?_
 refine xq 2 (iQ rfl rfl) rfl ?_
 refine xq 3 (ay rfl rfl) rfl ?_
 refine xq 4 (iQ rfl rfl) rfl ?_
 first | refine xq 5 (G_ rfl rfl rfl) rfl ?_ | refine xq 5 (o_ rfl rfl rfl) rfl ?_
 first | refine xq 6 (Bf rfl rfl) rfl ?_ | refine xq 6 (zi rfl rfl) rfl ?_ | refine xq 6 (ady rfl rfl) rfl ?_
 refine ae (i:=7) rfl an rfl rfl (lQ (args:=[_,_,_]) rfl rfl (fun h' hE hL=>aAK _ h' yD f0) (fun v A' hv=>?_))
 obtain⟨b1,b2,b3,rfl,rfl⟩:=hv
 refine⟨.inr (Keeps.app (Keeps.one (.head _) (Keeps.one (.tail _ (.tail _ (.tail _ (.head _)))) Keeps.nil))),?_⟩
 refine az ?_
 refine aA<|W.block ?_
 refine W.perm (F':=[(yC,ax6 [])]++[(b3,.cells #[I f0.lo,I f0.hi] eG (0,0)),(b2,.cells #[.slice none 0 0] azD (0,0)),(b1,.cells #[bI yD] awL (0,0)),(uU,.cells #[bI yD] awL (0,0)),(yD,ay0 vs vr vm (.slice (some ⟨bh,aym,none⟩) hs.length cap) yC),(β1,.cells (awE vs vr vm (.slice (some ⟨bh,aym,none⟩) hs.length cap)) zf (0,0))]) (List.perm_middle (l₁:=[_,_,_,_,_]) (l₂:=[_])).symm ?_
 refine W.abV (Val:=aBD s0) (xs:=allH hs) rfl rfl rfl (fun k A=>A=[(yC,ax6 (((allH hs).take k).map (aAf s0)))]) (fun _ _ _ _=>False) .head rfl
  (fun h' hE hL=>aAm _ h' s0 f0 hs vs vr vm _ yD yC b1 b2 b3 _ _ _ _ _ _ h5 hb4 h0 hs0 (hm.ext hE) (hh.ext hE) (hL yD _ (.tail _ (.tail _ (.tail _ (.tail _ (.head _)))))) (hL b1 _ (.tail _ (.tail _ (.head _)))) (hL b2 _ (.tail _ (.head _))) (hL b3 _ (.head _))) ?_ ?_ (fun _ _ _ _ _ _ _ _ hX=>hX.elim)
 ·rintro k p v S A1 hp ⟨rfl,rfl⟩ rfl l h1 hE1 hL1 hS1
  have hpm:=List.mem_of_getElem? hp
  have hp5:(asl p).length=5:=azb (by rw[aw6 hpm];exact h5)
  have aAX:(axZ (asl p) s0).size=12:=azk hp5
  have aB5:ones (axZ (asl p) s0).toList=true:=by
   obtain⟨c0,c1,c2,c3,c4,e⟩:=five hp5
   rw[e];rfl
  have aB6:(axZ (asl p) s0).extract 0 (0+12)=axZ (asl p) s0:=by
   rw[Array.extract_eq_self_of_le (by rw[aAX];omega)]
  have hgk:=aAH (s:=s0) hp5
  have hnew:=aBl (s0:=s0) hp
  have hnx:((allH hs).take (k+1)).map (aAf s0)=((allH hs).take k).map (aAf s0)++[aAf s0 p]:=by
   rw[MG hp,List.map_append];rfl
  refine W.region rfl ?_
  refine Ops.new (fun wC=>?_)
  first | refine Ops.jP ?_ | refine Ops.nY ?_
  refine Ops.nil ?_
  refine⟨rfl,rfl,fun h0 hE0 hL0=>?_⟩
  intro hS0
  have hx3:=hL0 uU _ (.tail _ (.tail _ (.tail _ (.head _))))
  have hx8:=hL0 yD _ (.tail _ (.tail _ (.tail _ (.tail _ (.head _)))))
  refine W.block ?_
  refine W.DR [(wC,.cells (axZ (asl p) s0) lq (0,0))] (n:=8) rfl ?_
  refine xq 0 (iQ rfl rfl) rfl ?_
  first | refine xq 1 (bg rfl rfl) rfl ?_ | refine xq 1 (aT rfl rfl) rfl ?_
  refine xq 2 (ay rfl rfl) rfl ?_
  refine xq 3 (iQ rfl rfl) rfl ?_
  refine xq 4 (ay rfl rfl) rfl ?_
  refine xq 5 (zi (vs:=((asl p).map nI).toArray) rfl rfl (.inr fun _ e=>e _ (.head _)) (by omega) hgk) rfl ?_
  first | refine xq 6 (Bf rfl rfl) rfl ?_ | refine xq 6 (zi rfl rfl) rfl ?_ | refine xq 6 (ady rfl rfl) rfl ?_
  refine ae (i:=7) rfl an rfl rfl (aAS (a:=asl p) (w:=5) (m:=((allH hs).take k).map (aAf s0)) rfl rfl rfl rfl hp5 (fun q hq=>by
   obtain⟨z,hz,rfl⟩:=List.mem_map.1 hq
   exact azb (by rw[aw6 (List.mem_of_mem_take hz)];exact h5)) hnew (.tail .head) ?_)
  refine⟨.inl (by kernel_rfl),?_⟩
  refine az ?_
  refine dI ?_
  exact⟨rfl,.inl ⟨rfl,_,rfl,by rw[hnx];exact .skip rfl .refl⟩⟩
 ·rintro A2 rfl d
  rw[List.take_of_length_le (Nat.le_refl _)]
  refine dI<|aA<|W.seq<|W.region rfl ?_
  refine agX rfl ?_
  refine agb rfl rfl rfl<|pq<|W.ret ?_
  refine lvm (hl:=At.head) (mg (vs:=[_]) ⟨yD,yC,rfl,?_⟩)
  exact .skip rfl (Sb.trans (Sb.dF (List.Perm.swap _ _ _)) (.cons (.skip rfl (.skip rfl (.skip rfl (.skip rfl (.cons (.skip rfl .refl))))))))

def bdF(n:Nat):Nat→Int
 | 0=>0
 | 1=>n
 | _=>(n:Int)-1
theorem aAx{x:Cx}{ρ:Env}{o:Oper}{t n E s b s' b':Nat}{z z':Value}{zc zc':Array Value}{parts:List (Nat×Operand)}{vs:List Value}{cs:Array Value}{S:ah→Prop}(ho:o.op= .build t parts.toArray)[TD x.P t (.array n E)][TI x.P t s b z zc][TI x.P E s' b' z' zc'](hv:evs ρ (parts.map (·.2))=some vs)
  (hf:Instr.fill (fun i:Nat=>some (i*s',s')) zc ((parts.map (·.1)).zip vs)=some cs):Yv x S ρ o (.agg cs):=fun e he F hF h' hE=>by
 obtain⟨j,_,_,_,_,hz⟩:=TI.out (inferInstance:TI x.P t s b z zc)
 have hp:parts.map (fun(p:Nat×Operand)=>(p.1,e p.2))=(parts.map (·.1)).zip vs:=by
  rw[←lN he hv,List.map_map]
  clear hf hv ho
  induction parts with
  | nil=>rfl
  | cons p r ih=>simp[ih]
 simp only[execOp,ho,Instr.build,List.map_toArray,bind_eq,au,bind_assoc,bind_pure,fG,aC,dH,hz]
 have hp':(parts.map fun x=>match x with | (i,y)=>(i,e y))=(parts.map (·.1)).zip vs:=hp
 simp only[hp',hf]
 exact⟨rfl,rfl⟩
theorem aBF{n j:Nat}(hj:j<3){cs:Array Value}(hc:cs= #[I (1-1),I n,I (n-1)]):cs[(j:Int).toNat*1]? =some (I (bdF n j)):=by
 subst hc
 have:j=0∨j=1∨j=2:=by omega
 rcases this with rfl | rfl | rfl <;>rfl
theorem EM(main:Side)(h:Hp)(vs vr vm vh vp vt:Value)(s0:Spn)(rs:List Int)(ms:Int×Int×Int)(hs:List Spn)(t:Nat)(ht:t≤hs.length)(ok:ayl [s0] rs ms hs)(H:ayQ h vs vr vm vh [s0] rs ms hs)(hp:Sl h fH vp [0])(hti:Sl h fH vt [(t:Int)]):
  dV prog main ayG #[axY vs vr vm vh,vp,vt,.slice none 0 0] h [] (fun v A=>∃b β,v= .tuple #[bI b,I 0]∧Sb [(b,ay0 vs vr vm vh β),(β,ax6 (axa s0 hs))] A):=by
 have hl1:[s0].length=1:=rfl
 have hh5:=ok.h2
 have hh1:=ok.h1
 obtain⟨a1,cap1,rfl⟩:=H.sm.dA
 obtain⟨a4,cap4,rfl⟩:=H.hm.dA
 obtain⟨a5,cap5,rfl⟩:=hp.dA
 obtain⟨a6,cap6,rfl⟩:=hti.dA
 obtain⟨bp,aA1,cp0,Ep,fzp,e3,hbp,-,hyp,hzp⟩:=hp.at (i:=0) (p:=0) rfl
 cases e3
 have hxp:cp0[aA1+0*1+0]? =some (I 0):=hzp 0 (by decide)
 obtain⟨bt,aA2,ct,Et,fzt,e3,hbt,-,hyt,hzt⟩:=hti.at (i:=0) (p:=(t:Int)) rfl
 cases e3
 have hxt:ct[aA2+0*1+0]? =some (I t):=hzt 0 (by decide)
 clear hzp hzt
 refine dV.aG azC rfl (by show 4≤57;decide) [(0,axY _ _ _ _),(1,.slice (some ⟨bp,aA1,none⟩) 1 cap5),(2,.slice (some ⟨bt,aA2,none⟩) 1 cap6),(3,.slice none 0 0)] ⟨rfl,rfl,rfl,rfl,trivial⟩ ?_
 refine W.seq<|W.region rfl ?_
 refine Ops.box (fun wC=>?_)
 refine agb rfl rfl rfl<|agb rfl rfl rfl<|pq<|W.seq<|W.seq<|W.region rfl ?_
 first | refine ag2 rfl ?_ | refine agW (ady rfl rfl) rfl ?_
 refine cp (fun h' hE hL=>az2 _ h' _ _ _ _ _ rs ms hs ok (H.ext hE)) ?_
 refine agb rfl rfl rfl<|pq<|W.seq<|W.region rfl<|qm rfl rfl rfl ?_
 refine agW (nG rfl rfl rfl) rfl ?_
 refine pq ?_
 refine W.bC rfl (fun c18=>?_) (fun c18=>?_)
 ·refine W.seq<|W.region rfl<|qm rfl rfl rfl<|agb rfl rfl rfl<|agb rfl rfl rfl<|pq<|W.ret<|aY ?_
  exact absurd rfl ‹_›
 ·refine W.skip<|aA<|W.seq<|W.seq<|W.region rfl<|qm rfl rfl rfl<|qm rfl rfl rfl<|qm rfl rfl rfl ?_
  refine Ops.NK (fun alR=>?_) rfl
  refine agW (dM rfl rfl) rfl ?_
  refine qm rfl rfl rfl<|pq<|W.block ?_
  refine W.loop (σ:=Nat) (fun j=>j≤3) (fun j=>[(25,I j),(24,I 3),(23,.slice (some ⟨alR,0,none⟩) 3 3),(4,bI wC)]) (fun _=>[(alR,.cells #[.slice (some ⟨bp,aA1,none⟩) 1 cap5,.slice (some ⟨bt,aA2,none⟩) 1 cap6,.slice none 0 0] nS (0,0)),(wC,.cells (awE (.slice a1 1 cap1) vr vm (.slice a4 hs.length cap4)) zf (0,0))]) (fun j=>3-j) 0 (by decide) ⟨rfl,rfl,rfl,rfl,trivial⟩ .refl ?_
  intro j hj
  refine W.seq<|W.region rfl ?_
  refine agW (fO rfl rfl rfl) rfl ?_
  refine pq<|W.seq ?_
  refine W.bC rfl (fun c26=>?_) (fun c26=>?_)
  ·have hj3:j<3:=by omega
   obtain⟨l,a,c,hlv,hsl,hll,hbd⟩:∃(l:List Int) (a:Option Addr) (c:Nat),(#[.slice (some ⟨bp,aA1,none⟩) 1 cap5,.slice (some ⟨bt,aA2,none⟩) 1 cap6,.slice none 0 0]:Array Value)[0+j*1+0]? =some (.slice a l.length c)∧Sl h fH (.slice a l.length c) l∧l.length≤1∧∀n∈l,0≤n∧n≤bdF hs.length j:=by
    have:j=0∨j=1∨j=2:=by omega
    rcases this with rfl | rfl | rfl
    ·exact⟨[0],_,_,rfl,hp,Nat.le_refl _,fun n hn=>by rw[List.mem_singleton.1 hn];exact⟨Int.le_refl _,Int.le_refl _⟩⟩
    ·exact⟨[(t:Int)],_,_,rfl,hti,Nat.le_refl _,fun n hn=>by rw[List.mem_singleton.1 hn];exact⟨by omega,by show(t:Int)≤(hs.length:Int);omega⟩⟩
    ·exact⟨[],_,_,rfl,.nil,by simp,fun n hn=>by cases hn⟩
   refine W.skip<|aA<|W.seq<|W.block<|W.seq<|W.region rfl<|qm rfl rfl rfl ?_
   refine ag3 rfl ?_
   refine agX rfl ?_
   refine agb rfl rfl rfl<|agb rfl rfl rfl<|pq<|W.seq<|W.region rfl<|qm rfl rfl rfl ?_
   refine agW (dM rfl rfl) rfl ?_
   refine qm rfl rfl rfl<|pq<|W.block ?_
   refine W.loop (σ:=Nat) (fun i=>i≤l.length) (fun i=>[(32,I i),(31,I l.length),(30,.slice a l.length c),(11,I j),(25,I j),(24,I 3),(23,.slice (some ⟨alR,0,none⟩) 3 3),(4,bI wC)]) (fun _=>[(alR,.cells #[.slice (some ⟨bp,aA1,none⟩) 1 cap5,.slice (some ⟨bt,aA2,none⟩) 1 cap6,.slice none 0 0] nS (0,0)),(wC,.cells (awE (.slice a1 1 cap1) vr vm (.slice a4 hs.length cap4)) zf (0,0))]) (fun i=>l.length-i) 0 (Nat.zero_le _) ⟨rfl,rfl,rfl,rfl,rfl,rfl,rfl,rfl,trivial⟩ .refl ?_
   intro i hi
   refine W.seq<|W.region rfl ?_
   refine agW (fO rfl rfl rfl) rfl ?_
   refine pq<|W.seq ?_
   refine W.bC rfl (fun c33=>?_) (fun c33=>?_)
   ·obtain⟨p,hpi,-⟩:=has (show i<l.length by omega)
    have hpb:=hbd p (List.mem_of_getElem? hpi)
    obtain⟨bx,ox,cx,Ex,fzx,e3,hbx,-,hyx,hzx⟩:=hsl.at hpi
    cases e3
    have hxx:cx[ox+i*1+0]? =some (I p):=hzx 0 (by decide)
    clear hzx
    refine W.skip<|aA<|W.seq<|W.block<|W.seq<|W.region rfl ?_
    refine ag3 rfl ?_
    refine agX rfl ?_
    refine agb rfl rfl rfl<|pq<|W.seq<|W.region rfl<|qm rfl rfl rfl ?_
    refine agY rfl ?_
    refine agX rfl ?_
    refine agW (dM rfl rfl) rfl ?_
    refine ag5 rfl ?_
    refine agY rfl ?_
    refine agX rfl ?_
    refine agW (dM rfl rfl) rfl ?_
    refine agY rfl ?_
    refine agX rfl ?_
    refine agW (dM rfl rfl) rfl ?_
    refine ag5 rfl ?_
    refine agW (aAx rfl rfl rfl) rfl ?_
    refine qm rfl rfl rfl ?_
    refine agW (Ti (v:=I (bdF hs.length j)) rfl rfl rfl (by omega) (by omega) (aBF hj3 rfl)) rfl ?_
    refine cp (fun h' hE hL=>aw2 _ h' _ _ _) ?_
    refine agW (xU rfl rfl) rfl ?_
    refine pq ?_
    refine W.cond rfl (fun c52=>?_) (fun c52=>?_)
    ·refine W.seq<|W.region rfl<|agb rfl rfl rfl<|agb rfl rfl rfl<|pq<|W.ret<|cZ<|aY<|aY ?_
     refine cZ<|cZ<|aY<|aY<|cZ<|aY ?_
     exfalso
     simp only[Bool.not_eq_true',decide_eq_false_iff_not]at*
     omega
    ·refine W.skip<|dI<|aA<|W.region rfl ?_
     refine ag1 rfl ?_
     refine qm rfl rfl rfl<|pq ?_
     exact⟨rfl,i+1,by omega,by omega,⟨rfl,rfl,rfl,rfl,rfl,rfl,rfl,rfl,trivial⟩,.refl⟩
   ·skip
    refine W.exit<|bP<|bP<|gG<|dI<|aA<|W.region rfl ?_
    refine ag1 rfl ?_
    refine qm rfl rfl rfl<|pq ?_
    exact⟨rfl,j+1,by omega,by omega,⟨rfl,rfl,rfl,rfl,trivial⟩,.refl⟩
  ·skip
   refine W.exit<|bP<|bP<|gG<|aA<|W.seq<|W.region rfl ?_
   first | refine ag2 rfl ?_ | refine agW (ady rfl rfl) rfl ?_
   refine c0 (fun h' hE hL=>aAw _ h' _ _ _ _ s0 rs ms hs ok (H.ext hE)) (fun v A' hv=>?_)
   obtain⟨b,β,rfl,hsb⟩:=hv
   refine agb rfl rfl rfl<|agb rfl rfl rfl<|pq<|W.ret ?_
   exact mg (vs:=[_,_]) ⟨b,β,rfl,.right hsb (.cons rfl (.cons rfl .nil))⟩
end Go.aS

/- How thick a pan can be. Conditions: none; over the given program. -/
namespace Go.aS
set_option maxRecDepth 100000
set_option maxHeartbeats 1000000
theorem aA3{x:Cx}{ρ:Env}{F:ah}{o:Oper}{R:Value→ah→Prop}{t kt vt:Nat}{y:Operand}{β:Nat}{m:List (List Int×Value)}(ho:o.op= .call ⟨.builtin .len, #[y], #[t]⟩)[TD x.P t (.map kt vt)](hy:ev ρ y=some (.map (some β)))(hm:(β,ax6 m)∈F)(H:R (.int .i64 m.length) F):Ef x ρ o F R:=
 Ef.xW fun e he h' hE=>by
  simp only[execOp,ho,resolve,invoke,builtin,Builtin.len_,List.map_toArray,List.map_cons,List.map_nil,he y _ hy,List.getElem?_toArray,List.getElem?_cons_zero,bind_eq,au,bind_assoc,bind_pure,aC]
  refine⟨ax6 m,.inr hm,(fun _ _ _=>by simp),rfl,?_⟩
  simp only[bind_pure]
  refine⟨_,.inl rfl,?_⟩
  simpa[goInt,aAR]using H
theorem aAB{hs:List Spn}(h:∀s∈hs,s.lo≤s.hi):1≤(allH hs).length:=by
 have:=aza h
 exact List.length_pos_of_mem this
theorem azQ{s0:Spn}{hs:List Spn}:(axa s0 hs).length=(allH hs).length:=by simp[axa]

theorem aA4(main:Side)(h:Hp)(vs vr vm vh vp vt:Value)(s0:Spn)(rs:List Int)(ms:Int×Int×Int)(hs:List Spn)(t:Nat)(ht:t≤hs.length)(ok:ayl [s0] rs ms hs)(H:ayQ h vs vr vm vh [s0] rs ms hs)(hp:Sl h fH vp [0])(hti:Sl h fH vt [(t:Int)]):
  dV prog main ayf #[axY vs vr vm vh,vp,vt,.slice none 0 0] h [] (fun v A=>∃b β,v= .tuple #[bI b,I 0]∧Sb [(b,ay0 vs vr vm vh β),(β,ax6 (axa s0 hs))] A):=by
 have hne:=aAB (hs:=hs) fun s hs'=>(ok.hp s hs').2.1
 have hml:=azQ (s0:=s0) (hs:=hs)
 refine dV.aG azr rfl (by show 4≤32;decide) [(0,axY _ _ _ _),(1,vp),(2,vt),(3,.slice none 0 0)] ⟨rfl,rfl,rfl,rfl,trivial⟩ ?_
 refine W.seq<|W.region rfl ?_
 refine Ops.box (fun wC=>?_)
 refine agb rfl rfl rfl<|agb rfl rfl rfl<|pq<|W.seq<|W.region rfl ?_
 first | refine ag2 rfl ?_ | refine agW (ady rfl rfl) rfl ?_
 refine qm rfl rfl rfl<|qm rfl rfl rfl<|qm rfl rfl rfl ?_
 refine c0 (fun h' hE hL=>EM _ h' vs vr vm vh vp vt s0 rs ms hs t ht ok (H.ext hE) (hp.ext hE) (hti.ext hE)) (fun v A' hv=>?_)
 obtain⟨b,β,rfl,hsb⟩:=hv
 refine Ops.sb (hsb.app .refl) ?_
 refine qm rfl rfl rfl<|oq (bD rfl rfl rfl) rfl wn rfl rfl<|oq (bD rfl rfl rfl) rfl wn rfl rfl<|agb rfl rfl rfl<|agb rfl rfl rfl<|pq<|W.seq<|W.seq<|W.region rfl ?_
 refine qm rfl rfl rfl ?_
 refine agW (nD rfl rfl rfl) rfl ?_
 refine qm rfl rfl rfl ?_
 refine Ops.ask (fun aCI=>?_) (fun aCI=>?_)
 ·refine oq (aN rfl rfl) rfl (ak rfl rfl rfl) rfl rfl ?_
  first | refine oq (bg rfl rfl) rfl (ak rfl rfl rfl) rfl rfl ?_ | refine oq (aT rfl rfl) rfl (ak rfl rfl rfl) rfl rfl ?_
  refine oq (ay rfl rfl) rfl (ak rfl rfl rfl) rfl rfl ?_
  refine oq (iQ rfl rfl) rfl (ak rfl rfl rfl) rfl rfl ?_
  refine oe rfl (ak rfl rfl rfl) rfl rfl (aA3 rfl rfl (.tail _ (.head _)) ?_)
  refine oq (nD rfl rfl rfl) rfl (ak rfl rfl rfl) rfl rfl ?_
  refine agW (dG rfl rfl rfl) rfl ?_
  refine pq ?_
  refine W.bC rfl (fun c29=>?_) (fun c29=>?_)
  ·refine W.seq<|W.region rfl<|agb rfl rfl rfl<|agb rfl rfl rfl<|pq<|W.ret<|aY ?_
   exfalso
   first | omega | (simp at*;done) | (simp only[decide_eq_true_eq]at*;omega)
  ·refine W.skip<|aA<|W.seq<|W.region rfl<|qm rfl rfl rfl<|qm rfl rfl rfl<|agb rfl rfl rfl<|agb rfl rfl rfl<|pq ?_
   refine W.ret ?_
   exact mg (vs:=[_,_]) ⟨b,β,rfl,.cons (.cons (.skip rfl .refl))⟩
 ·refine Ops.no ?_
  refine Ops.no ?_
  refine Ops.no ?_
  refine Ops.no ?_
  refine Ops.no ?_
  refine Ops.no ?_
  refine agW (iH rfl rfl rfl) rfl ?_
  refine pq ?_
  refine W.bZ ?_
  refine W.skip<|aA<|W.seq<|W.region rfl<|qm rfl rfl rfl<|qm rfl rfl rfl<|agb rfl rfl rfl<|agb rfl rfl rfl<|pq ?_
  refine W.ret ?_
  exact mg (vs:=[_,_]) ⟨b,β,rfl,.cons (.cons (.skip rfl .refl))⟩

theorem aAn:∀{hs:List Spn} {x:List Int} {a:Int},(∀s∈hs,0≤s.lo∧s.hi≤4)→x∈allH hs→a∈x→0≤a∧a≤4
 | [],x,a,_,h,ha=>by
               have:x=[]:=by simpa[allH]using h
               subst this;cases ha
 | s::r,x,a,hb,h,ha=>by
  simp only[allH,List.mem_flatMap,List.mem_map]at h
  obtain⟨n,hn,y,hy,rfl⟩:=h
  have h1:=ay9.1 hn
  have h2:=hb s (List.mem_cons_self ..)
  rcases List.mem_cons.1 ha with rfl | ha
  ·omega
  ·exact aAn (fun s hs=>hb s (List.mem_cons_of_mem _ hs)) hy ha
def aBm(f g:List Int→Int)(vis:List (List Int)):Option (Int×Int)→Prop
 | none=>vis=[]
 | some (a,b)=>(∀x∈vis,a≤f x∧g x≤b)∧(∃x∈vis,a=f x)∧∃x∈vis,b=g x
theorem aBm.next{f g:List Int→Int}{vis:List (List Int)}{o:Option (Int×Int)}{x:List Int}(H:aBm f g vis o)(hx:f x≤g x):aBm f g (vis++[x]) (tkF (tkF o (f x)) (g x)):=by
 rcases o with _ | ⟨a,b⟩
 ·have hv:vis=[]:=H
  subst hv
  have e1:min (f x) (g x)=f x:=by omega
  have e2:max (f x) (g x)=g x:=by omega
  refine⟨fun y hy=>?_,⟨x,by simp,e1⟩,⟨x,by simp,e2⟩⟩
  have:y=x:=by simpa using hy
  subst this
  rw[e1,e2];omega
 ·obtain⟨h1,⟨y,hy,rfl⟩,z,hz,rfl⟩:=H
  refine⟨fun u hu=>?_,?_,?_⟩
  ·rcases List.mem_append.1 hu with hu | hu
   ·have:=h1 u hu;omega
   ·have:u=x:=by simpa using hu
    subst this;omega
  ·rcases Int.le_total (f y) (f x)with h | h
   ·exact⟨y,by simp[hy],by have:=h1 y hy;omega⟩
   ·exact⟨x,by simp,by omega⟩
  ·rcases Int.le_total (g z) (g x)with h | h
   ·exact⟨x,by simp,by omega⟩
   ·exact⟨z,by simp[hz],by have:=h1 z hz;omega⟩
theorem cnt_lt{p q:Nat→Bool}{a:Nat}:∀{l:List Nat},a∈l→p a=true→q a=false→(∀b,q b=true→p b=true)→l.countP q<l.countP p
 | [],h,_,_,_=>by cases h
 | b::l,h,hp,hq,hi=>by
  rw[List.countP_cons,List.countP_cons]
  rcases List.mem_cons.1 h with rfl | h
  ·have:l.countP q≤l.countP p:=List.countP_mono_left fun x _ hx=>hi x hx
   simp only[hp,hq]
   simp;omega
  ·have ih:=cnt_lt h hp hq hi
   have:(if q b=true then 1 else 0)≤(if p b=true then 1 else 0):=by
    cases hb:q b with
    | false=>simp
    | true=>simp[hi b hb]
   omega
def aA5(N:Nat)(sn:List Nat):Nat:=(List.range N).countP fun i=> !sn.contains i
theorem aA6{N i:Nat}{sn:List Nat}(h:i<N)(hi:i∉sn):aA5 N (sn++[i])<aA5 N sn:=by
 refine cnt_lt (a:=i) (List.mem_range.2 h) (by simpa using hi) (by simp) fun b hb=>?_
 simp at hb⊢
 exact hb.1

theorem aA7(main:Side)(h:Hp)(vs vr vm vh:Value)(s0:Spn)(r:Int)(ms:Int×Int×Int)(hs:List Spn)(t:Nat)(ht:t≤hs.length)(ok:ayl [s0] [r] ms hs)(H:ayQ h vs vr vm vh [s0] [r] ms hs):
  dV prog main ax7 #[axY vs vr vm vh,I 0,I t] h [] (fun v A=>∃s:Spn,v= .tuple #[s.val,I 0]∧Shut A∧(∀x∈allH hs,s.lo≤s0.lo+r*Ju ((asl x).take t)∧s0.hi+r*Ju ((asl x).take t)≤s.hi)∧(∃x∈allH hs,s.lo=s0.lo+r*Ju ((asl x).take t))∧∃x∈allH hs,s.hi=s0.hi+r*Ju ((asl x).take t)):=by
 obtain⟨f,hf⟩:∃f:List Int→Int,f=fun x=>s0.lo+r*Ju ((asl x).take t):=⟨_,rfl⟩
 obtain⟨g,hg⟩:∃g:List Int→Int,g=fun x=>s0.hi+r*Ju ((asl x).take t):=⟨_,rfl⟩
 have hs0:=ok.sp s0 (List.mem_cons_self ..)
 have hr1:=ok.rp r (List.mem_cons_self ..)
 have h5:=ok.h2
 have hne:=aAB (hs:=hs) fun s hs'=>(ok.hp s hs').2.1
 have hml:=azQ (s0:=s0) (hs:=hs)
 have hfg:∀x,f x≤g x:=fun x=>by rw[hf,hg];simp only;omega
 have hpb:∀x∈allH hs,(asl x).length=5∧∀a∈asl x,0≤a∧a≤4:=fun x hx=>by
  refine⟨azb (by rw[aw6 hx];exact h5),fun a ha=>?_⟩
  rcases List.mem_append.1 ha with ha | ha
  ·exact aAn (fun s hs'=>⟨(ok.hp s hs').1,(ok.hp s hs').2.2⟩) hx ha
  ·rw[(List.mem_replicate.1 ha).2];omega
 refine dV.aG azp rfl (by show 3≤52;decide) [(0,axY _ _ _ _),(1,I ((0:Nat):Int)),(2,I t)] ⟨rfl,rfl,rfl,trivial⟩ ?_
 refine W.seq<|W.region rfl ?_
 refine Ops.box (fun uU=>?_)
 refine Ops.new (fun yC=>?_)
 refine agb rfl rfl rfl<|pq<|W.seq<|W.region rfl ?_
 first | refine ag2 rfl ?_ | refine agW (ady rfl rfl) rfl ?_
 refine qm rfl rfl rfl ?_
 refine Ops.NK (cs:= #[I ((0:Nat):Int)]) (fun afC=>?_) rfl
 refine qm rfl rfl rfl ?_
 refine Ops.NK (cs:= #[I (t:Int)]) (fun akT=>?_) rfl
 refine c0 (fun h' hE hL=>aA4 _ h' vs vr vm vh _ _ s0 [r] ms hs t ht ok (H.ext hE) (Sl.mk (hL afC _ (.tail _ (.head _))) rfl (Part.all (flat fH [0]))) (Sl.mk (hL akT _ (.head _)) rfl (Part.all (flat fH [(t:Int)])))) (fun v A' hv=>?_)
 obtain⟨b,β,rfl,hsb⟩:=hv
 refine Ops.sb (hsb.app .refl) ?_
 refine qm rfl rfl rfl<|oq (bD rfl rfl rfl) rfl wn rfl rfl<|oq (bD rfl rfl rfl) rfl wn rfl rfl<|agb rfl rfl rfl<|agb rfl rfl rfl<|pq<|W.seq<|W.seq<|W.region rfl ?_
 refine qm rfl rfl rfl ?_
 refine agW (nG rfl rfl rfl) rfl ?_
 refine pq ?_
 refine W.bC rfl (fun c24=>?_) (fun c24=>?_)
 ·refine W.seq<|W.region rfl ?_
  refine agW (eH rfl rfl rfl) rfl ?_
  refine qm rfl rfl rfl ?_
  first | refine Ops.jP ?_ | refine Ops.nY ?_
  refine agb rfl rfl rfl<|pq<|W.ret<|aY ?_
  exact absurd rfl ‹_›
 ·refine W.skip<|aA<|W.seq<|W.region rfl ?_
  refine Ops.new (fun Oj=>?_)
  refine pq<|W.seq<|W.seq<|W.region rfl<|qm rfl rfl rfl ?_
  refine ag4 rfl ?_
  refine agY rfl ?_
  refine agX rfl ?_
  refine oe rfl wn rfl rfl (aAr rfl rfl (.tail _ (.tail _ (.head _))) fun βr=>?_)
  refine pq<|W.block ?_
  refine W.Js (σ:=List Nat) (τ:=Option (Int×Int)) (υ:=Unit) (fun sn o _=>∃vis:List (List Int),(∀x∈vis,x∈allH hs)∧(∀i∈sn,∀x,(allH hs)[i]? =some x→x∈vis)∧aBm f g vis o) (fun _ _ _=>[(31,bI βr),(8,bI b),(1,I ((0:Nat):Int)),(2,I t),(10,bI Oj),(6,bI yC)])
   (fun sn o _=>[(βr,.mapIter (some β) (axa s0 hs).length sn.toArray (axa s0 hs).length),(Oj,aAv o),(yC,.cells #[I 0,I 0] eG (0,0)),(b,ay0 vs vr vm vh β),(β,ax6 (axa s0 hs))]) (fun sn _ _=>aA5 (axa s0 hs).length sn) [] none () ⟨[],(fun x hx=>by cases hx),(fun i hi=>by cases hi),rfl⟩ ⟨rfl,rfl,rfl,rfl,rfl,rfl,trivial⟩ ?_ ?_
  ·exact .cons (.cons ((Sb.dF (List.perm_middle (l₁:=[_,_]) (l₂:=[])).symm).trans (.cons (.cons (.skip rfl (.skip rfl (.cons (.skip rfl .refl))))))))
  rintro sn o ⟨⟩ ⟨vis,hv1,hv2,hbd⟩
  refine W.seq<|W.region rfl ?_
  refine oe rfl wn rfl rfl (aBy rfl rfl (.tail _ (.tail _ (.tail _ (.tail _ (.head _))))) .head ?_ ?_)
  ·intro i p hp hi
   obtain⟨x,hx,rfl⟩:∃x,(allH hs)[i]? =some x∧p=aAf s0 x:=by
    rw[axa,List.getElem?_map]at hp
    obtain⟨x,h1,h2⟩:=Option.map_eq_some_iff.1 hp
    exact⟨x,h1,h2.symm⟩
   have hxm:=List.mem_of_getElem? hx
   obtain⟨hp5,Du⟩:=hpb x hxm
   have aAX:(axZ (asl x) s0).size=12:=azk hp5
   have aB5:ones (axZ (asl x) s0).toList=true:=by
    obtain⟨c0,c1,c2,c3,c4,e⟩:=five hp5
    rw[e];rfl
   have aB6:(axZ (asl x) s0).extract 0 (0+12)=axZ (asl x) s0:=by
    rw[Array.extract_eq_self_of_le (by rw[aAX];omega)]
   refine oq (bD rfl rfl rfl) rfl wn rfl rfl<|pq<|W.seq ?_
   refine W.cond rfl (fun c33=>?_) (fun c33=>?_)
   ·refine W.skip<|aA<|W.block<|W.seq<|W.region rfl ?_
    refine oe rfl wn rfl rfl (aBf (i:=i) rfl rfl (.tail _ (.tail _ (.tail _ (.tail _ (.head _))))) (.head _) hp ?_)
    refine agW (bD rfl rfl rfl) rfl ?_
    refine Ops.new (fun Yf=>?_)
    first | refine Ops.jP ?_ | refine Ops.nY ?_
    refine pq<|W.seq<|W.region rfl<|qm rfl rfl rfl ?_
    first | refine ag2 rfl ?_ | refine agW (ady rfl rfl) rfl ?_
    refine qm rfl rfl rfl<|qm rfl rfl rfl ?_
    refine cp (fun h' hE hL=>aAT _ h' b β vs vr vm vh r s0 (asl x) t (hL b _ (.tail _ (.tail _ (.tail _ (.tail _ (.head _)))))) (H.rm.ext hE) hr1 hs0 hp5 (by omega) Du) ?_
    refine Ops.new (fun X5=>?_)
    first | refine Ops.jP ?_ | refine Ops.nY ?_
    refine pq<|W.seq<|W.region rfl ?_
    refine agY rfl ?_
    refine agX rfl ?_
    refine cg (A:=[(Oj,aAv o)]) (.tail (.tail (.tail .head))) (fun h' hE hL=>aav _ h' Oj o _) (fun v A' hv=>?_)
    refine Ops.sb (.cons (.cons (.cons (hv.app .refl)))) ?_
    refine pq<|W.region rfl ?_
    refine agY rfl ?_
    refine agX rfl ?_
    refine cg (A:=[(Oj,aAv _)]) (.tail (.tail (.tail .head))) (fun h' hE hL=>aav _ h' Oj _ _) (fun v A' hv=>?_)
    refine Ops.sb (.cons (.cons (.cons (hv.app .refl)))) ?_
    refine Ops.nil<|dI<|aA ?_
    have hfx:f x=s0.lo+r*Ju ((asl x).take t):=by rw[hf]
    have hgx:g x=s0.hi+r*Ju ((asl x).take t):=by rw[hg]
    have hil:=(List.getElem?_eq_some_iff.1 hp).1
    refine⟨rfl,sn++[i],tkF (tkF o (f x)) (g x),(),⟨vis++[x],fun y hy=>?_,fun j hj y hy=>?_,hbd.next (hfg x)⟩,aA6 hil hi,⟨rfl,rfl,rfl,rfl,rfl,rfl,trivial⟩,?_⟩
    ·rcases List.mem_append.1 hy with hy | hy
     ·exact hv1 y hy
     ·rw[List.mem_singleton.1 hy];exact hxm
    ·rcases List.mem_append.1 hj with hj | hj
     ·exact List.mem_append_left _ (hv2 j hj y hy)
     ·rw[List.mem_singleton.1 hj,hx]at hy
      cases hy
      exact List.mem_append_right _ (List.mem_cons_self ..)
    ·rw[hfx,hgx]
     exact .skip rfl (.skip rfl .refl)
   ·exact absurd c33 (by decide)
  ·intro hall
   have hcov:∀x∈allH hs,x∈vis:=fun x hx=>by
    obtain⟨i,hi⟩:=List.mem_iff_getElem?.1 hx
    have hil:=(List.getElem?_eq_some_iff.1 hi).1
    exact hv2 i (hall i (by rw[hml];exact hil)) x hi
   obtain⟨x0,hx0⟩:∃x,x∈allH hs:=⟨_,aza fun s hs'=>(ok.hp s hs').2.1⟩
   obtain⟨⟨qa,qb⟩,rfl⟩:∃q,o=some q:=by
    rcases o with _ | q
    ·have hv:vis=[]:=hbd
     have:=hcov x0 hx0
     rw[hv]at this;cases this
    ·exact⟨q,rfl⟩
   obtain⟨hq1,⟨xa,hxa,hqa⟩,xb,hxb,hqb⟩:=hbd
   refine oq (bD rfl rfl rfl) rfl wn rfl rfl<|pq<|W.seq ?_
   refine W.cond rfl (fun c33=>?_) (fun c33=>?_)
   ·exact absurd ‹_› (by decide)
   ·refine W.exit<|bP<|bP<|gG<|aA<|W.seq<|W.region rfl ?_
    refine agY rfl ?_
    refine agX rfl ?_
    refine agY rfl ?_
    refine agX rfl ?_
    refine agW (eH rfl rfl rfl) rfl ?_
    first | refine Ops.jP ?_ | refine Ops.nY ?_
    refine agb rfl rfl rfl<|pq<|W.ret ?_
    refine QJ (hv:=D_ (RN zJ)) ⟨⟨qa,qb⟩,rfl,by repeat(first | exact Shut.nil | refine Shut.cons rfl ?_),fun x hx=>?_,⟨xa,hv1 xa hxa,?_⟩,xb,hv1 xb hxb,?_⟩
    ·have:=hq1 x (hcov x hx)
     rw[hf,hg]at this;exact this
    ·rw[hqa,hf]
    ·rw[hqb,hg]
end Go.aS

/- Operations that come up in any order and only add to what is owned. Conditions: none; over any program. -/
namespace Go.aS
abbrev Spc:=Nat×Nat×(Value→ah→Prop)
def waits(ops:Array Oper):Nat→Nat→Nat→Bool
 | 0,_,_=>false
 | n+1,k,b=>match ops[k]? with | some o=>o.after.any fun e=>iG e&&(Nat.beq e.on b|| waits ops n e.on b) | none=>false
structure Y4(ops:Array Oper)(listed:Nat)(B:List Nat):Prop where
 cl:Closed ops listed
 low:∀k o,ops[k]? =some o→∀e∈o.after,iG e=true→e.on<k
 or:∀k,k<ops.size→listed.testBit k=false→k∈B∨∀b∈B,waits ops 6 k b=true
 un:∀b∈B,b<ops.size∧listed.testBit b=false
 nd:B.Nodup

theorem Y4.some{ops:Array Oper}{listed:Nat}{B:List Nat}(h:Y4 ops listed B){b:Nat}(hb:b∈B):qx ops listed≠[]:=by
 have key:∀(n k:Nat),k<n→k<ops.size→listed.testBit k=false→∃i,Fq ops listed i=true:=by
  intro n
  induction n with
  | zero=>intro k hk;omega
  | succ n ih=>
   intro k hk hlt hl
   by_cases hr:Fq ops listed k=true
   ·exact⟨k,hr⟩
   ·simp only[Fq,Array.getElem?_eq_getElem hlt,hl,Bool.not_false,Bool.true_and,Array.all_eq_true_iff_forall_mem,Bool.or_eq_true,Bool.not_eq_true']at hr
    have:∃e∈(ops[k]).after,iG e=true∧listed.testBit e.on=false:=by
     refine Classical.byContradiction fun hn=>hr fun e he=>?_
     cases hbe:iG e with
     | false=>exact .inl rfl
     | true=>
      cases ht:listed.testBit e.on with
      | true=>exact .inr rfl
      | false=>exact absurd ⟨e,he,hbe,ht⟩ hn
    obtain⟨e,he,h1,h2⟩:=this
    have:=h.low k _ (Array.getElem?_eq_getElem hlt) e he h1
    exact ih e.on (by omega) (by omega) h2
 obtain⟨i,hi⟩:=key (b+1) b (by omega) (h.un b hb).1 (h.un b hb).2
 intro e
 have:=o8.2 hi
 rw[e]at this
 cases this

theorem Y4.step{ops:Array Oper}{listed j:Nat}{B1 B2:List Nat}(h:Y4 ops listed (B1++j::B2))(hj:Fq ops listed j=true):Y4 ops (listed||| 2 ^ j) (B1++B2):=by
 have hnd:j∉B1++B2:=by
  have:=(List.perm_middle (a:=j) (l₁:=B1) (l₂:=B2)).nodup_iff.1 h.nd
  exact(List.nodup_cons.1 this).1
 refine⟨h.cl.step hj,h.low,fun k hk hl=>?_,fun b hb=>?_,?_⟩
 ·rw[testBit_or,Bool.or_eq_false_iff]at hl
  have hne:j≠k:=by simpa using hl.2
  rcases h.or k hk hl.1 with h' | h'
  ·left
   rcases List.mem_append.1 h' with h' | h'
   ·exact List.mem_append_left _ h'
   ·rcases List.mem_cons.1 h' with h' | h'
    ·exact absurd h'.symm hne
    ·exact List.mem_append_right _ h'
  ·right
   intro b hb
   refine h' b ?_
   rcases List.mem_append.1 hb with hb | hb
   ·exact List.mem_append_left _ hb
   ·exact List.mem_append_right _ (List.mem_cons_of_mem _ hb)
 ·have hb':b∈B1++j::B2:=by
   rcases List.mem_append.1 hb with hb | hb
   ·exact List.mem_append_left _ hb
   ·exact List.mem_append_right _ (List.mem_cons_of_mem _ hb)
  refine⟨(h.un b hb').1,?_⟩
  rw[testBit_or,(h.un b hb').2,Bool.false_or,decide_eq_false_iff_not]
  rintro rfl
  exact hnd hb
 ·have:=(List.perm_middle (a:=j) (l₁:=B1) (l₂:=B2)).nodup_iff.1 h.nd
  exact(List.nodup_cons.1 this).2

def Adds(x:Cx)(ops:Array Oper)(ε:Ev)(s:Spc):Prop:=
 ∃o,ops[s.1]? =some o∧o.dst=some s.2.1∧d_ o.dst x.n=true∧(∀c,o.op≠ .defer c)∧o.guard=none∧∀e,Cons ε e→∀F,Dx x o e F fun v F'=>∃A Lp,Lp.Perm F'∧s.2.2 v A∧Lp=A++F

theorem Cons.back{ε:Ev}{d:Nat}{v:Value}{e:Operand→Value}(h:Cons (upd ε (some d) v) e)(hd:ε d=none):Cons ε e:=fun y u hy=>h y u (by
 cases y with
 | tmp t=>
  simp only[UK,upd]at hy⊢
  cases hb:Nat.beq t d with
  | true=>rw[Nat.eq_of_beq_eq_true hb,hd]at hy;cases hy
  | false=>exact hy
 | _=>exact hy)

section rules
variable{x:Cx}{Q:Post}{ρ:Env}{ds:List Deferred}{F:ah}{ops:Array Oper}{L:ah}{fuel listed:Nat}
theorem Adds.of{i d:Nat}{P:Value→ah→Prop}{op:Op}{ty:TypeId}{pos:String}{bK:Array Edge}(ho:cO ops.toList i=some ⟨some d,op,ty,pos,bK,none⟩)(hd:Nat.blt d x.n=true)(hn:cu op=true)(H:∀F,Ef x ρ ⟨some d,op,ty,pos,bK,none⟩ F fun v F'=>∃A,P v A∧F'=A++F):Adds x ops (look ρ) (i,d,P):=
 ⟨_,aU ho,rfl,hd,gI hn,rfl,fun e he F=>(H F e fun y v hy=>he y v (by rw[DC];exact hy)).mono fun v F' ⟨Lp,p,A,hv,e⟩=>⟨A,Lp,p,hv,e⟩⟩
theorem Adds.call{i d f:Nat}{P:Value→ah→Prop}{args:List Operand}{ts:Array TypeId}{vs:List Value}{ty:TypeId}{pos:String}{bK:Array Edge}(H:∀h',Ext x.h h'→dV x.P x.main f vs.toArray h' [] P)(ho:cO ops.toList i=some ⟨some d,.call ⟨.value (.func f),args.toArray,ts⟩,ty,pos,bK,none⟩:=by rfl)[FB x.P f](hv:evs ρ args=some vs:=by rfl)(hd:Nat.blt d x.n=true:=by rfl):Adds x ops (look ρ) (i,d,P):=
 .of ho hd rfl fun F=>lQ rfl hv (fun h' hE _=>H h' hE) fun v A' hv=>⟨A',hv,rfl⟩
def axt(t:TypeId)(zc:Array Value)(v:Value)(A:ah):Prop:=∃β,v= .pointer (some ⟨β,0,none⟩)∧A=[(β,.cells zc t (0,0))]
theorem Adds.new{i d t s b:Nat}{z:Value}{zc:Array Value}{ty:TypeId}{pos:String}{bK:Array Edge}(ho:cO ops.toList i=some ⟨some d,.alloc t,ty,pos,bK,none⟩:=by rfl)[TI x.P t s b z zc](hd:Nat.blt d x.n=true:=by rfl):Adds x ops (look ρ) (i,d,axt t zc):=
 .of ho hd rfl fun F=>wJ rfl fun β _ _=>⟨_,⟨β,rfl,rfl⟩,rfl⟩
end rules
end Go.aS
namespace Go.aS
section
variable{α:Type}{row:α→List Value}{w:Nat}[rw':Rw row w]
section
variable{x:Cx}{ρ:Env}{F:ah}{o:Oper}{R:Value→ah→Prop}
end
end
section
variable{x:Cx}{S:ah→Prop}{ρ:Env}{o:Oper}
end
end Go.aS
namespace Go.aS
section
variable{x:Cx}{Q:Post}{ρ:Env}{ds:List Deferred}{ops:Array Oper}{G:ah}{y₁ y₂ y₃ y₄ agp agq:Nat×Obj}{id n:Nat}
end
end Go.aS
namespace Go.aS
theorem Os.open{α:Type}{row:α→List Value}{w:Nat}[Rw row w]{E:TypeId}{a:Option Addr}{n cap:Nat}{l:List α}{A:ah}(h:Os E row (.slice a n cap) l A)(hne:0<l.length):∃β c J,a=some ⟨β,0,none⟩∧A=(β,.cells c E (0,0))::J∧n=l.length∧c.size=cap*w∧l.length≤cap∧Part c 0 (flat row l)∧Shut J:=by
 rcases h with⟨rfl,_,_⟩ | ⟨β,c,cp,J,hv,rfl,h1,h2,h3,h4⟩
 ·simp at hne
 ·injection hv with e1 e2 e3
  subst e1 e2 e3
  exact⟨β,c,J,rfl,rfl,rfl,h1,h2,h3,h4⟩
end Go.aS

/- Slices of slices; makeSlice. Conditions: none; over any program. -/
namespace Go.aS
structure Sv where
  a:Option Addr
  n:Nat
  cap:Nat
abbrev Sv.val(s:Sv):Value:=.slice s.a s.n s.cap
def ags(s:Sv):List Value:=[.slice s.a s.n s.cap]
instance:Rw ags 1:=⟨fun _=>rfl,fun _=>rfl⟩

section
variable{α:Type}{row:α→List Value}{w:Nat}[rw':Rw row w]{E:TypeId}
inductive UG(E:TypeId)(row:α→List Value)[Rw row w]:List Sv→List (List α)→ah→Prop
  | nil:UG E row [] [] []
  | cons {s:Sv} {l:List α} {A B:ah} {vs:List Sv} {ls:List (List α)}:Os E row s.val l A→UG E row vs ls B→UG E row (s::vs) (l::ls) (A++B)
theorem UG.len{vs:List Sv}{ls:List (List α)}{A:ah}(h:UG E row vs ls A):vs.length=ls.length:=by
  induction h with
  | nil=>rfl
  | cons _ _ ih=>simp[ih]
theorem UG.shut{vs:List Sv}{ls:List (List α)}{A:ah}(h:UG E row vs ls A):Shut A:=by
  induction h with
  | nil=>exact .nil
  | cons h _ ih=>exact h.shut.app ih
theorem UG.snoc{vs:List Sv}{ls:List (List α)}{A B:ah}{s:Sv}{l:List α}(h:UG E row vs ls A)(hs:Os E row s.val l B):UG E row (vs++[s]) (ls++[l]) (A++B):=by
  induction h with
  | nil=>have:=UG.cons hs .nil;simpa using this
  | cons h1 _ ih=>have:=UG.cons h1 ih;rw[←List.append_assoc]at this;exact this
theorem UG.sl{vs:List Sv}{ls:List (List α)}{A:ah}{h':Hp}(h:UG E row vs ls A)(hL:∀b o,(b,o)∈A→h' b=some o):∀{k:Nat} {s:Sv} {l:List α},vs[k]? =some s→ls[k]? =some l→Sl h' row s.val l:=by
  induction h with
  | nil=>intro k s l hs;simp at hs
  | cons h1 _ ih=>
    intro k s l hs hl
    rcases k with _ | k
    · simp at hs hl;subst hs hl
      exact h1.sl fun b o hb=>hL b o (List.mem_append_left _ hb)
    · simp at hs hl
      exact ih (fun b o hb=>hL b o (List.mem_append_right _ hb)) hs hl
theorem Sv.eta{v:Value}{l:List α}{A:ah}(h:Os E row v l A):∃s:Sv,v=s.val:=by
  obtain⟨a,cap,rfl⟩:=h.dA
  exact⟨⟨a,_,cap⟩,rfl⟩
end
/-! makeSlice -/
section
variable{x:Cx}{ρ:Env}{F:ah}{o:Oper}{R:Value→ah→Prop}
end
end Go.aS

/- How thick the pan is at all times. Conditions: none; over the given program. -/
namespace Go.aS
set_option maxRecDepth 100000
set_option maxHeartbeats 1000000
instance:NI prog azE:=⟨by kernel_rfl⟩
instance:NI prog azj:=⟨by kernel_rfl⟩
theorem aAC(main:Side)(h:Hp)(l:List Int)(ss:List Spn)(vl vs:Value)(hl:Sl h fH vl l)(hss:Sl h Spn.row vs ss)(he:l.length=ss.length)(h5:ss.length≤5)(hin:∀(i:Nat) p s,l[i]? =some p→ss[i]? =some s→s.lo≤p∧p≤s.hi):Pu prog main ayE #[vl,vs] h .nilIface:=by
 obtain⟨a,cap,rfl⟩:=hl.dA
 obtain⟨a2,cap2,rfl⟩:=hss.dA
 refine dV.aG azz rfl (by show 2≤44;decide) [(0,.slice a l.length cap),(1,.slice a2 ss.length cap2)] ⟨rfl,rfl,trivial⟩ ?_
 refine W.seq<|W.region rfl<|agb rfl rfl rfl<|pq<|W.seq<|W.seq<|W.region rfl<|qm rfl rfl rfl ?_
 refine agW (dM rfl rfl) rfl ?_
 refine agb rfl rfl rfl<|pq<|W.block<|W.seq<|W.region rfl<|qm rfl rfl rfl ?_
 refine agW (dM rfl rfl) rfl ?_
 refine qm rfl rfl rfl ?_
 refine agW (fO rfl rfl rfl) rfl ?_
 refine agb rfl rfl rfl<|pq ?_
 refine W.bC rfl (fun c10=>?_) (fun c10=>?_)
 ·exact absurd ‹_› (by omega)
 ·refine W.seq<|W.region rfl<|qm rfl rfl rfl ?_
  refine agW (dM rfl rfl) rfl ?_
  refine qm rfl rfl rfl ?_
  refine agW (rC rfl rfl rfl) rfl ?_
  refine agb rfl rfl rfl<|pq ?_
  refine W.bC rfl (fun c17=>?_) (fun c17=>?_)
  ·exact absurd ‹_› (by omega)
  ·refine W.skip<|dI<|aA<|W.seq<|W.seq<|W.region rfl<|qm rfl rfl rfl ?_
   refine agW (dM rfl rfl) rfl ?_
   refine qm rfl rfl rfl<|pq<|W.block ?_
   refine W.loop (σ:=Nat) (fun k=>k≤ss.length) (fun k=>[(26,I k),(25,I ss.length),(24,.slice a2 ss.length cap2),(0,.slice a l.length cap)]) (fun _=>[]) (fun k=>ss.length-k) 0 (Nat.zero_le _) ⟨rfl,rfl,rfl,rfl,trivial⟩ TW ?_
   rintro k hk
   refine W.seq<|W.region rfl ?_
   refine agW (fO rfl rfl rfl) rfl ?_
   refine pq<|W.seq ?_
   refine W.bC rfl (fun c27=>?_) (fun c27=>?_)
   ·obtain⟨s,hs,-⟩:=has (show k<ss.length by omega)
    obtain⟨p,hp,-⟩:=has (show k<l.length by omega)
    have hps:=hin k p s hp hs
    obtain⟨b,off,c,E,fz,rfl,hb,hx,hy,-⟩:=hss.at hs
    have hx':c.extract (off+k*2) (off+k*2+2)= #[I s.lo,I s.hi]:=hx
    obtain⟨b',off',c',E',fz',rfl,hb',-,hy2,hz1⟩:=hl.at hp
    have hx2:c'[off'+k*1+0]? =some (I p):=hz1 0 (by decide)
    clear hz1 hx
    refine W.skip<|aA<|W.seq<|W.block<|W.seq<|W.region rfl<|qm rfl rfl rfl ?_
    refine ag3 rfl ?_
    first | refine ag2 rfl ?_ | refine agW (ady rfl rfl) rfl ?_
    refine Ops.new (fun Vo=>?_)
    refine agb rfl rfl rfl ?_
    first | refine Ops.jP ?_ | refine Ops.nY ?_
    refine pq<|W.seq ?_
    refine W.DR [(Vo,.cells #[I s.lo,I s.hi] eG (0,0))] (n:=10) rfl ?_
    refine xq 0 (aN rfl rfl) rfl ?_
    refine xq 1 (aN rfl rfl) rfl ?_
    first | refine xq 2 (G_ rfl rfl rfl) rfl ?_ | refine xq 2 (o_ rfl rfl rfl) rfl ?_
    refine xq 3 (iQ rfl rfl) rfl ?_
    refine xq 4 (ay rfl rfl) rfl ?_
    refine xq 5 (iQ rfl rfl) rfl ?_
    refine xq 6 (ay rfl rfl) rfl ?_
    refine xq 7 (iQ rfl rfl) rfl ?_
    refine Va (i:=8) (fun h' hE hL=>aw2 _ h' _ _ _) ?_
    refine xq 9 (xU rfl rfl) rfl ?_
    refine az ?_
    refine aA ?_
    refine W.cond rfl (fun c40=>?_) (fun c40=>?_)
    ·refine W.seq<|W.region rfl ?_
     refine agW (eH rfl rfl rfl) rfl ?_
     first | refine agW (ZK rfl rfl) rfl ?_ | refine agW (yfc rfl rfl) rfl ?_
     refine agb rfl rfl rfl<|pq<|W.ret<|cZ<|aY<|aY<|cZ<|aY ?_
     exfalso
     simp only[Bool.not_eq_true',decide_eq_false_iff_not]at*
     omega
    ·refine W.skip<|dI<|aA<|W.region rfl ?_
     refine ag1 rfl ?_
     refine qm rfl rfl rfl<|pq ?_
     exact⟨rfl,k+1,by omega,by omega,⟨rfl,rfl,rfl,rfl,trivial⟩,TW⟩
   ·skip
    refine W.exit<|bP<|bP<|gG<|aA<|W.seq<|W.region rfl<|agb rfl rfl rfl<|pq ?_
    refine W.ret ?_
    exact uZ rfl

theorem aBn(main:Side)(h:Hp)(be:Nat)(E:TypeId)(z:Nat×Nat)(hbe:h be=some (.cells #[.nilIface,.nilIface] E z)):Pu prog main ayy #[.slice (some ⟨be,0,none⟩) 2 2] h .nilIface:=by
 refine dV.aG azy rfl (by show 1≤47;decide) [(0,.slice (some ⟨be,0,none⟩) 2 2)] ⟨rfl,trivial⟩ ?_
 refine W.seq<|W.region rfl<|agb rfl rfl rfl<|pq<|W.seq<|W.region rfl<|agb rfl rfl rfl<|pq ?_
 refine W.seq<|W.seq<|W.region rfl<|qm rfl rfl rfl ?_
 refine agW (dM rfl rfl) rfl ?_
 refine qm rfl rfl rfl<|pq<|W.block ?_
 refine W.loop (σ:=Nat) (fun k=>k≤2) (fun k=>[(11,I k),(10,I 2),(9,.slice (some ⟨be,0,none⟩) 2 2),(3,I 0)]) (fun _=>[]) (fun k=>2-k) 0 (by decide) ⟨rfl,rfl,rfl,rfl,trivial⟩ .refl ?_
 rintro k hk
 refine W.seq<|W.region rfl ?_
 refine agW (fO rfl rfl rfl) rfl ?_
 refine pq<|W.seq ?_
 refine W.bC rfl (fun c12=>?_) (fun c12=>?_)
 ·have hx:(#[.nilIface,.nilIface]:Array Value)[0+k*1]? =some .nilIface:=by
   have:k=0∨k=1:=by omega
   rcases this with rfl | rfl <;>rfl
  refine W.skip<|aA<|W.seq<|W.block<|W.seq<|W.region rfl ?_
  refine ag3 rfl ?_
  refine agX rfl ?_
  refine agb rfl rfl rfl<|pq<|W.seq<|W.region rfl<|qm rfl rfl rfl ?_
  refine agW (aBe rfl rfl) rfl ?_
  refine pq ?_
  refine W.bZ ?_
  refine W.skip<|dI<|aA<|W.region rfl ?_
  refine ag1 rfl ?_
  refine qm rfl rfl rfl<|pq ?_
  exact⟨rfl,k+1,by omega,by omega,⟨rfl,rfl,rfl,rfl,trivial⟩,TW⟩
 ·skip
  refine W.exit<|bP<|bP<|gG<|aA<|W.seq<|W.seq<|W.region rfl<|qm rfl rfl rfl ?_
  refine agW (nD rfl rfl rfl) rfl ?_
  refine pq ?_
  refine W.bC rfl (fun c21=>?_) (fun c21=>?_)
  ·refine W.seq<|W.region rfl<|agb rfl rfl rfl<|pq<|W.ret<|aY ?_
   exact uZ rfl
  ·exact absurd rfl ‹_›

def Rws(us:List Sv)(ls:List Int)(B:ah):Prop:=us.length=ls.length∧Shut B∧∀(k:Nat) s v,us[k]? =some s→ls[k]? =some v→∃β c cap,s=⟨some ⟨β,0,none⟩,1,cap⟩∧(β,.cells c dL (0,0))∈B∧Part c 0 (flat fH [v])
theorem Rws.snoc{us:List Sv}{ls:List Int}{B S:ah}{s:Sv}{v:Int}(H:Rws us ls B)(hs:Os dL fH s.val [v] S):Rws (us++[s]) (ls++[v]) (B++S):=by
 obtain⟨h1,h2,h3⟩:=H
 refine⟨by simp[h1],h2.app hs.shut,fun k s' v' hk hv=>?_⟩
 rcases Nat.lt_or_ge k us.length with h | h
 ·rw[List.getElem?_append_left h]at hk
  rw[List.getElem?_append_left (by omega)]at hv
  obtain⟨β,c,cap,e,hm,hp⟩:=h3 k s' v' hk hv
  exact⟨β,c,cap,e,List.mem_append_left _ hm,hp⟩
 ·rw[List.getElem?_append_right h]at hk
  rw[List.getElem?_append_right (by omega)]at hv
  have e1:k-us.length=0:=by
   rcases Nat.eq_zero_or_pos (k-us.length)with h' | h'
   ·exact h'
   ·rw[List.getElem?_eq_none (by simp;omega)]at hk;cases hk
  have e2:k-ls.length=0:=by omega
  rw[e1]at hk
  rw[e2]at hv
  cases hk
  cases hv
  rcases hs with⟨he,_⟩ | ⟨β,c,cap,J,he,rfl,_,_,hp,_⟩
  ·cases he
  ·obtain⟨a,n,cp⟩:=s
   cases he
   exact⟨β,c,_,rfl,List.mem_append_right _ (List.mem_cons_self ..),hp⟩
def ayx(q r:Int)(bf:List Int)(n:Nat):List Int:=(List.range n).map fun i=>q+r*Ju (bf.take i)
theorem aAL{q r:Int}{bf:List Int}{n:Nat}:ayx q r bf (n+1)=ayx q r bf n++[q+r*Ju (bf.take n)]:=by simp[ayx,List.range_succ]
theorem aAo{q r:Int}{bf:List Int}{n:Nat}:(ayx q r bf n).length=n:=by simp[ayx]
theorem aAD{q r:Int}{bf:List Int}{n i:Nat}(h:i<n):(ayx q r bf n)[i]? =some (q+r*Ju (bf.take i)):=by simp[ayx,List.getElem?_range h]

theorem az5(main:Side)(h:Hp)(vs vr vm vh vq vw:Value)(s0:Spn)(r q:Int)(ms:Int×Int×Int)(hs:List Spn)(bf:List Int)(ok:ayl [s0] [r] ms hs)(H:ayQ h vs vr vm vh [s0] [r] ms hs)(hq:Sl h fH vq [q])(hw:Sl h fH vw bf)(hqs:s0.lo≤q∧q≤s0.hi)(hl:bf.length=hs.length)(hin:∀(i:Nat) p s,bf[i]? =some p→hs[i]? =some s→s.lo≤p∧p≤s.hi):
  dV prog main ax2 #[axY vs vr vm vh,vq,vw] h [] (fun v A=>∃w O us B,v= .tuple #[w,I 0]∧Os nS ags w us O∧Rws us (ayx q r bf (bf.length+1)) B∧Sb (O++B) A):=by
 have hs0:=ok.sp s0 (List.mem_cons_self ..)
 have hr1:=ok.rp r (List.mem_cons_self ..)
 have h5:=ok.h2
 have hht:∀a∈bf,0≤a∧a≤4:=fun a ha=>by
  obtain⟨i,hi⟩:=List.mem_iff_getElem?.1 ha
  have hil:=(List.getElem?_eq_some_iff.1 hi).1
  obtain⟨s,hsi,-⟩:=has (show i<hs.length by omega)
  have h1:=hin i a s hi hsi
  have h2:=ok.hp s (List.mem_of_getElem? hsi)
  omega
 have hH:=H
 obtain⟨a2,cap2,rfl⟩:=hw.dA
 obtain⟨a1,cap1,rfl⟩:=H.rm.dA
 obtain⟨br,aBo,cr,Er,fzr,e3,hbr,-,hyr,hzr⟩:=H.rm.at (i:=0) (p:=r) rfl
 cases e3
 have hxr:cr[aBo+0*1+0]? =some (I r):=hzr 0 (by decide)
 clear hzr
 refine dV.aG azf rfl (by show 3≤78;decide) [(0,axY _ _ _ _),(1,vq),(2,.slice a2 bf.length cap2)] ⟨rfl,rfl,rfl,trivial⟩ ?_
 refine W.seq<|W.region rfl ?_
 refine Ops.box (fun uU=>?_)
 refine agb rfl rfl rfl<|agb rfl rfl rfl<|pq<|W.seq<|W.seq<|W.region rfl ?_
 first | refine ag2 rfl ?_ | refine agW (ady rfl rfl) rfl ?_
 refine cp (fun h' hE hL=>az2 _ h' _ _ _ _ _ [r] ms hs ok (hH.ext hE)) ?_
 refine agb rfl rfl rfl<|pq<|W.seq<|W.region rfl<|qm rfl rfl rfl ?_
 refine agW (nG rfl rfl rfl) rfl ?_
 refine pq ?_
 refine W.bC rfl (fun c20=>?_) (fun c20=>?_)
 ·refine W.seq<|W.region rfl<|qm rfl rfl rfl<|agb rfl rfl rfl<|agb rfl rfl rfl<|pq<|W.ret<|aY ?_
  exact absurd rfl ‹_›
 ·refine W.skip<|aA<|W.seq<|W.region rfl ?_
  refine Ops.new (fun Uw=>?_)
  refine pq<|W.seq<|W.seq ?_
  refine W.DR [(uU,.cells (awE vs (.slice (some ⟨br,aBo,none⟩) [r].length cap1) vm vh) zf (0,0))] (n:=11) rfl ?_
  refine xq 0 (aN rfl rfl) rfl ?_
  refine xq 1 (ay rfl rfl) rfl ?_
  refine xq 2 (iQ rfl rfl) rfl ?_
  refine xq 4 (aN rfl rfl) rfl ?_
  refine xq 5 (ay rfl rfl) rfl ?_
  refine xq 6 (iQ rfl rfl) rfl ?_
  refine Va (i:=3) (fun h' hE hL=>aAC _ h' [q] [s0] _ _ (hq.ext hE) (hH.sm.ext hE) rfl (Nat.le_of_ble_eq_true rfl) (fun i p s hp hs'=>by
   rcases i with _ | i
   ·cases hp;cases hs';exact hqs
   ·cases hp)) ?_ (hS:=.inr (Keeps.one (.tail _ (.head _)) Keeps.nil))
  refine Va (i:=7) (fun h' hE hL=>aAC _ h' bf hs _ _ (hw.ext hE) (hH.hm.ext hE) hl h5 hin) ?_ (hS:=.inr (Keeps.one (.tail _ (.head _)) Keeps.nil))
  refine ae (i:=8) rfl an rfl rfl (DN (parts:=[⟨_,_⟩,⟨_,_⟩]) (cs:= #[.nilIface,.nilIface]) rfl rfl (by decide) (by decide) (by kernel_rfl) fun avi _ _=>⟨.inr (Keeps.one (.tail _ (.tail _ (.head _))) Keeps.nil),?_⟩)
  refine Va (i:=9) (fun h' hE hL=>aBn _ h' avi _ _ (hL avi _ (.head _))) ?_ (hS:=.inr (Keeps.one (.tail _ (.tail _ (.head _))) Keeps.nil))
  refine xq 10 (jS rfl rfl) rfl ?_
  refine az ?_
  refine aA<|W.seq<|W.region rfl<|qm rfl rfl rfl ?_
  first | refine agW (ZK rfl rfl) rfl ?_ | refine agW (yfc rfl rfl) rfl ?_
  refine cp (fun h' hE hL=>Yc _ h' _) ?_
  refine pq ?_
  refine W.bZ ?_
  refine W.skip<|aA<|W.seq<|W.region rfl ?_
  refine Ops.aeO (fun akW=>?_)
  refine qm rfl rfl rfl ?_
  have hO0:Os dL fH (.slice (some ⟨akW,0,none⟩) 0 0) ([]:List Int) [(akW,.cells #[] dL (0,0))]:=.inr ⟨akW, #[],0,[],rfl,rfl,rfl,Nat.le_refl _,Part.all [],.nil⟩
  refine oe rfl wn rfl rfl (iW (row:=fH) (l:=[]) (l':=[q]) (A:=[(akW,.cells #[] dL (0,0))]) rfl rfl rfl hO0 .head (fun h2 hE _=>hq.ext hE) (by simp) (by decide) rfl (fun v' S' hS'=>?_))
  rw[List.nil_append]at hS'
  obtain⟨s1,rfl⟩:=Sv.eta hS'
  refine Ops.NK (cs:= #[.slice s1.a s1.n s1.cap]) (fun atT=>?_) rfl
  refine agb rfl rfl rfl<|pq<|W.seq<|W.seq<|W.region rfl<|qm rfl rfl rfl ?_
  refine agW (dM rfl rfl) rfl ?_
  refine qm rfl rfl rfl<|pq<|W.block ?_
  have hO1:Os nS ags (.slice (some ⟨atT,0,none⟩) 1 1) [s1] [(atT,.cells #[.slice s1.a s1.n s1.cap] nS (0,0))]:=.inr ⟨atT,_,1,[],rfl,rfl,rfl,Nat.le_refl _,Part.all _,.nil⟩
  have hB1:Rws [s1] (ayx q r bf 1) S':=by
   have h0:Rws [] [] []:=⟨rfl,.nil,fun k s v hk=>by cases hk⟩
   have h1:=h0.snoc hS'
   have e:ayx q r bf 1=[q]:=by simp[ayx,Ju]
   rw[e];exact h1
  refine W.Js (σ:=Nat) (τ:=List Sv×Option Addr×Nat) (υ:=ah×ah) (fun k t u=>k≤bf.length∧Os nS ags (.slice t.2.1 t.1.length t.2.2) t.1 u.1∧Rws t.1 (ayx q r bf (k+1)) u.2) (fun k t _=>[(43,I k),(42,I bf.length),(41,.slice a2 bf.length cap2),(11,.slice t.2.1 t.1.length t.2.2),(3,bI uU)])
   (fun _ _ u=>(uU,.cells (awE vs (.slice (some ⟨br,aBo,none⟩) [r].length cap1) vm vh) zf (0,0))::(u.1++u.2)) (fun k _ _=>bf.length-k) 0 ([s1],some ⟨atT,0,none⟩,1) ([(atT,.cells #[.slice s1.a s1.n s1.cap] nS (0,0))],S') ⟨Nat.zero_le _,hO1,hB1⟩ ⟨rfl,rfl,rfl,rfl,rfl,trivial⟩ ?_ ?_
  ·exact(Sb.dF (List.perm_append_comm (l₁:=[_]))).trans (.cons (.app .refl (.skip rfl (.skip rfl .refl))))
  rintro k ⟨us,oa,oc⟩ ⟨O,B⟩ ⟨hk,hO,hB⟩
  dsimp only at*
  refine W.seq<|W.region rfl ?_
  refine agW (fO rfl rfl rfl) rfl ?_
  refine pq<|W.seq ?_
  refine W.bC rfl (fun c44=>?_) (fun c44=>?_)
  ·have hkl:k<bf.length:=by omega
   have hul:us.length=k+1:=by rw[hB.1,aAo]
   obtain⟨x,hx,-⟩:=has hkl
   have hx4:=hht x (List.mem_of_getElem? hx)
   obtain⟨bw,aCa,cw,Ew,fzw,e3,hbw,-,hyw,hzw⟩:=hw.at hx
   cases e3
   have hxw:cw[aCa+k*1+0]? =some (I x):=hzw 0 (by decide)
   clear hzw
   obtain⟨s,hsk,-⟩:=has (show k<us.length by omega)
   obtain⟨v,hv⟩:∃v,v=q+r*Ju (bf.take k):=⟨_,rfl⟩
   have hvk:(ayx q r bf (k+1))[k]? =some v:=by rw[hv];exact aAD (Nat.lt_succ_self k)
   obtain⟨βw,cb,cp,rfl,hmb,hpb⟩:=hB.2.2 k s v hsk hvk
   have hxb:cb[0+0*1+0]? =some (I v):=Part.Bo hpb (i:=0) (p:=v) rfl 0 (by decide)
   obtain⟨βo,co,Jo,hoa,hOe,-,-,-,hPo,-⟩:=hO.open (by omega)
   subst hoa
   have hcell:co[0+k*1+0]? =some (.slice (some ⟨βw,0,none⟩) 1 cp):=hPo.Bo hsk 0 (by decide)
   have hsum:=ax1 (l:=bf.take k) fun a ha=>hht a (List.mem_of_mem_take ha)
   have hlen:(bf.take k).length≤5:=by rw[List.length_take];omega
   have hv4:0≤v∧v≤200:=by
    have:r=1∨r=2∨r=3:=by omega
    rcases this with rfl | rfl | rfl <;>omega
   have hm4:0≤r*x∧r*x≤12:=by
    have:r=1∨r=2∨r=3:=by omega
    rcases this with rfl | rfl | rfl <;>omega
   have hvx:v+r*x=q+r*Ju (bf.take (k+1)):=by
    rw[az4 hx,Int.mul_add,hv];omega
   have hl1:[r].length=1:=rfl
   refine W.skip<|aA<|W.seq<|W.block<|W.seq<|W.region rfl ?_
   refine ag3 rfl ?_
   refine agX rfl ?_
   refine agb rfl rfl rfl<|pq<|W.seq<|W.region rfl<|agb rfl rfl rfl<|pq<|W.seq<|W.seq ?_
   refine W.region rfl<|qm rfl rfl rfl<|qm rfl rfl rfl ?_
   refine agW (dM rfl rfl) rfl ?_
   refine KU (acL rfl rfl rfl) (show I _=I (k:Int) by congr 1;omega) rfl wn rfl rfl ?_
   refine ag3 rfl ?_
   refine agW (iQ rfl rfl (.inr (fun _ e=>by subst e;exact .tail _ (List.mem_append_left _ (by rw[hOe];exact .head _)))) hcell) rfl ?_
   refine agW (dM rfl rfl) rfl ?_
   refine qm rfl rfl rfl<|pq<|W.block ?_
   refine W.Js (σ:=Nat) (τ:=List Int×Value) (υ:=ah) (fun j t u=>j≤1∧t.1=(if j=0 then[]else[v+r*x])∧Os dL fH t.2 t.1 u) (fun j t _=>[(54,I j),(53,I 1),(52,.slice (some ⟨βw,0,none⟩) 1 cp),(14,t.2),(13,I x),(43,I k),(42,I bf.length),(41,.slice (some ⟨bw,aCa,none⟩) bf.length cap2),(11,.slice (some ⟨βo,0,none⟩) us.length oc),(3,bI uU)])
    (fun _ _ u=>(uU,.cells (awE vs (.slice (some ⟨br,aBo,none⟩) [r].length cap1) vm vh) zf (0,0))::(u++(O++B))) (fun j _ _=>1-j) 0 ([],.slice none 0 0) [] ⟨by decide,rfl,.nil .nil⟩ ⟨rfl,rfl,rfl,rfl,rfl,rfl,rfl,rfl,rfl,rfl,trivial⟩ .refl ?_
   rintro j ⟨wl,wv⟩ S ⟨hj,hwl,hS⟩
   dsimp only at*
   refine W.seq<|W.region rfl ?_
   refine agW (fO rfl rfl rfl) rfl ?_
   refine pq<|W.seq ?_
   refine W.bC rfl (fun c55=>?_) (fun c55=>?_)
   ·obtain rfl:j=0:=by omega
    rw[if_pos rfl]at hwl
    subst hwl
    obtain⟨wa,wc,rfl⟩:=hS.dA
    refine W.skip<|aA<|W.seq<|W.block<|W.seq<|W.region rfl<|qm rfl rfl rfl ?_
    refine ag3 rfl ?_
    refine agW (iQ rfl rfl (.inr (fun _ e=>by subst e;exact .tail _ (List.mem_append_right _ (List.mem_append_right _ hmb)))) hxb) rfl ?_
    refine agb rfl rfl rfl<|agb rfl rfl rfl<|pq<|W.region rfl<|qm rfl rfl rfl<|qm rfl rfl rfl ?_
    refine agY rfl ?_
    refine agX rfl ?_
    refine qm rfl rfl rfl ?_
    refine ag3 rfl ?_
    refine agX rfl ?_
    refine qm rfl rfl rfl ?_
    first | refine agW (aaC rfl rfl rfl) rfl ?_ | refine agW (Fz rfl rfl rfl) rfl ?_
    refine ag1 rfl ?_
    refine Ops.NK (cs:= #[I (v+r*x)]) (fun aCL=>?_) rfl
    refine oe rfl wn rfl rfl (iW (row:=fH) (l:=[]) (l':=[v+r*x]) rfl rfl rfl hS (.tail (.tail .head)) (fun h2 _ hl=>Sl.mk (hl aCL _ (.head _)) rfl (Part.all (flat fH [v+r*x]))) (by simp) (by decide) rfl (fun v2 S2 hS2=>?_))
    refine agb rfl rfl rfl<|Ops.nil<|dI<|aA<|W.region rfl ?_
    refine ag1 rfl ?_
    refine qm rfl rfl rfl<|pq ?_
    exact⟨rfl,1,([v+r*x],v2),S2,⟨by omega,rfl,hS2⟩,by omega,⟨rfl,rfl,rfl,rfl,rfl,rfl,rfl,rfl,rfl,rfl,trivial⟩,.skip rfl .refl⟩
   ·obtain rfl:j=1:=by omega
    rw[if_neg (by decide)]at hwl
    subst hwl
    obtain⟨s2,rfl⟩:=Sv.eta hS
    refine W.exit<|bP<|bP<|gG<|aA<|W.region rfl<|qm rfl rfl rfl<|qm rfl rfl rfl ?_
    refine Ops.NK (cs:= #[.slice s2.a s2.n s2.cap]) (fun aCM=>?_) rfl
    refine oe rfl wn rfl rfl (iW (row:=ags) (l':=[s2]) rfl rfl rfl hO (.tail (.tail (.app .head))) (fun h2 _ hl=>Sl.mk (hl aCM _ (.head _)) rfl (Part.all (ags s2))) (by simp;omega) (by decide) rfl (fun v3 O3 hO3=>?_))
    obtain⟨oa3,oc3,rfl⟩:=hO3.dA
    refine agb rfl rfl rfl<|Ops.nil<|dI<|aA<|W.region rfl ?_
    refine ag1 rfl ?_
    refine qm rfl rfl rfl<|pq ?_
    refine⟨rfl,k+1,(us++[s2],oa3,oc3),(O3,B++S),⟨by omega,hO3,?_⟩,by omega,⟨rfl,rfl,rfl,rfl,rfl,trivial⟩,.skip rfl (.cons (.dF ?_))⟩
    ·show Rws (us++[s2]) (ayx q r bf (k+1+1)) (B++S)
     rw[aAL,←hvx];exact hB.snoc hS
    ·rw[←List.append_assoc];exact List.perm_append_comm
  ·obtain rfl:k=bf.length:=by omega
   refine W.exit<|bP<|bP<|gG<|aA<|W.seq<|W.region rfl<|qm rfl rfl rfl<|agb rfl rfl rfl<|agb rfl rfl rfl ?_
   refine pq<|W.ret ?_
   exact mg (vs:=[_,_]) ⟨_,O,us,B,rfl,hO,hB,.skip rfl .refl⟩
end Go.aS

/- Boils of one pan out of a hat. Conditions: none; over the given program. -/
namespace Go.aS
set_option maxRecDepth 100000
set_option maxHeartbeats 1000000
theorem aAM(main:Side)(h:Hp)(nums:List Int)(lv:Value)(b k:Nat)(s:Int)(hl:Sl h fH lv nums)(hk:k≤100000):dV prog main ay5 #[bI b,I 1,I 4] h [(b,wF lv k s)]
  (fun v A=>∃vs vr vm vh s0 r0 m1 m2 m3 hs Ss Sr Sm Sh k' s',v=axY vs vr vm vh∧Os eG Spn.row vs [s0] Ss∧Os dL fH vr [r0] Sr∧Os dL fH vm [m1,m2,m3] Sm∧Os eG Spn.row vh hs Sh∧(1≤m1∧m1<m2∧m2<m3∧m3≤60)∧1≤hs.length∧hs.length≤4∧k'≤k+100∧Sb ((b,wF lv k' s')::(Ss++(Sr++(Sm++Sh)))) A):=by
 refine dV.aG azS rfl (by show 3≤80;decide) [(0,bI b),(1,I 1),(2,I 4)] ⟨rfl,rfl,rfl,trivial⟩ ?_
 refine W.seq<|W.region rfl ?_
 refine Ops.new (fun yC=>?_)
 refine pq<|W.seq<|W.region rfl ?_
 refine Ops.new (fun Vo=>?_)
 refine pq<|W.seq<|W.seq<|W.region rfl<|qm rfl rfl rfl<|qm rfl rfl rfl ?_
 refine cg (A:=[(b,_)]) (.tail (.tail .head)) (fun h' hE hL=>UD _ h' nums lv b k s 1 1 (hl.ext hE) (by omega) (by omega)) (fun v A' hv=>?_)
 obtain⟨r,s1,rfl,hr,hsb⟩:=hv
 refine Ops.sb (.cons (.cons (hsb.app .refl))) ?_
 obtain rfl:r=1:=by omega
 refine agb rfl rfl rfl<|pq<|W.block ?_
 refine W.Js (σ:=Nat) (τ:=(List Spn×Value)×(List Int×Value)) (υ:=(Nat×Int)×(ah×ah)) (fun i t u=>i≤1∧t.1.1.length+i=1∧t.2.1.length+i=1∧Os eG Spn.row t.1.2 t.1.1 u.2.1∧Os dL fH t.2.2 t.2.1 u.2.2∧u.1.1≤k+50-20*i) (fun i _ _=>[(8,I i),(7,bI Vo),(6,bI yC),(0,bI b),(1,I 1),(2,I 4)])
  (fun _ t u=>(b,wF lv u.1.1 u.1.2)::(Vo,.cells (awE t.1.2 t.2.2 (.slice none 0 0) (.slice none 0 0)) zf (0,0))::(yC,.cells (awE (.slice none 0 0) (.slice none 0 0) (.slice none 0 0) (.slice none 0 0)) zf (0,0))::(u.2.1++u.2.2)) (fun i _ _=>i) 1 (([],.slice none 0 0),([],.slice none 0 0)) ((k+1,s1),([],[])) ⟨Nat.le_refl _,rfl,rfl,.nil .nil,.nil .nil,by dsimp only;omega⟩ ⟨rfl,rfl,rfl,rfl,rfl,rfl,trivial⟩ (.dF (List.perm_append_comm (l₁:=[_]) (l₂:=[_,_]))) ?_
 rintro i ⟨⟨ls,vs⟩,lr,vr⟩ ⟨⟨k1,s2⟩,Ss,Sr⟩ ⟨hi,h1,h2,hS,hR,hk1⟩
 dsimp only at*
 obtain⟨va,vc,rfl⟩:=hS.dA
 obtain⟨ra,rc,rfl⟩:=hR.dA
 refine W.seq<|W.seq<|W.region rfl<|qm rfl rfl rfl ?_
 refine agW (rC rfl rfl rfl) rfl ?_
 refine pq ?_
 refine W.bC rfl (fun c17=>?_) (fun c17=>?_)
 ·obtain rfl:i=1:=by omega
  have hls:ls=[]:=List.length_eq_zero_iff.1 (by omega)
  have hlr:lr=[]:=List.length_eq_zero_iff.1 (by omega)
  refine W.skip<|aA<|W.seq<|W.block<|W.seq<|W.region rfl<|qm rfl rfl rfl ?_
  refine cg (A:=[(b,_)]) .head (fun h' hE hL=>UD _ h' nums lv b k1 s2 0 12 (hl.ext hE) (by omega) (by omega)) (fun v A' hv=>?_)
  obtain⟨n,s3,rfl,hn,hsb⟩:=hv
  refine Ops.sb (hsb.app .refl) ?_
  refine agb rfl rfl rfl<|pq<|W.seq ?_
  refine W.DR [(Vo,.cells (awE (.slice va ls.length vc) (.slice ra lr.length rc) (.slice none 0 0) (.slice none 0 0)) zf (0,0))] (n:=13) rfl ?_
  refine xq 0 (ay rfl rfl) rfl ?_
  refine xq 1 (iQ rfl rfl) rfl ?_
  refine xq 2 (aN rfl rfl) rfl ?_
  refine xq 3 (aN rfl rfl) rfl ?_
  refine xq 4 (aN rfl rfl) rfl ?_
  refine ae (i:=5) rfl an rfl rfl (DN (parts:=[⟨_,_⟩,⟨_,_⟩,⟨_,_⟩,⟨_,_⟩]) (cs:= #[I 0,I 0,I 1,I 2]) rfl rfl (by decide) (by decide) (by kernel_rfl) fun arO _ _=>⟨.inr (Keeps.one (.tail _ (.tail _ (.head _))) Keeps.nil),?_⟩)
  refine ae (i:=6) rfl an rfl rfl (QZ (args:=[_,_]) rfl rfl (.tail .head) (fun h' hE hL=>YM _ h' nums lv b (k1+1) s3 [0,0,1,2] _ (hl.ext hE) (Sl.mk (hL arO _ (.head _)) rfl (Part.all [I 0,I 0,I 1,I 2])) (by omega) (by simp) (by simp)) (fun v A' hv=>?_))
  refine⟨.inr (Keeps.one (.tail _ (List.mem_append_right _ (.head _))) Keeps.nil),?_⟩
  obtain⟨d,s4,rfl,hd,hsb⟩:=hv
  have hd2:0≤d∧d≤2:=by
   simp only[List.mem_cons,List.not_mem_nil,or_false]at hd
   omega
  refine Any.sb (.cons (hsb.app .refl)) ?_
  first | refine xq 7 (Zi rfl rfl rfl) rfl ?_ | refine xq 7 (MZ rfl rfl rfl) rfl ?_
  refine xq 8 (eH rfl rfl rfl) rfl ?_
  refine ae (i:=9) rfl an rfl rfl (DN (parts:=[⟨_,_⟩]) (cs:= #[I n,I (n+d)]) rfl rfl (by decide) (by decide) (by kernel_rfl) fun aCN _ _=>⟨.inr (Keeps.one (.tail _ (.tail _ (.tail _ (.head _)))) Keeps.nil),?_⟩)
  refine ae (i:=10) rfl an rfl rfl (iW (row:=Spn.row) (l':=[⟨n,n+d⟩]) rfl rfl rfl hS (.tail (.tail (.app (.tail (.tail .head))))) (fun h2 _ hl=>Sl.mk (hl aCN _ (.head _)) rfl (Part.all (flat Spn.row [⟨n,n+d⟩]))) (by simp;omega) (by decide) rfl (fun v2 S2 hS2=>?_))
  refine⟨.inr (Keeps.one (.tail _ (.tail _ (.tail _ (.head _)))) Keeps.nil),?_⟩
  obtain⟨va2,vc2,rfl⟩:=hS2.dA
  refine xq 11 (ay rfl rfl) rfl ?_
  refine ae (i:=12) rfl an rfl rfl (eS rfl rfl rfl ?_)
  refine⟨.inl (by kernel_rfl),?_⟩
  refine az ?_
  refine aA ?_
  refine W.DR [(Vo,.cells (awE (.slice va2 (ls++[(⟨n,n+d⟩:Spn)]).length vc2) (.slice ra lr.length rc) (.slice none 0 0) (.slice none 0 0)) zf (0,0))] (n:=11) rfl ?_
  refine xq 0 (ay rfl rfl) rfl ?_
  refine xq 1 (iQ rfl rfl) rfl ?_
  refine xq 2 (aN rfl rfl) rfl ?_
  refine xq 3 (aN rfl rfl) rfl ?_
  refine ae (i:=4) rfl an rfl rfl (QZ (args:=[_,_,_]) rfl rfl (.tail (.tail (.head (A:=[(b,_)])))) (fun h' hE hL=>UD _ h' nums lv b (k1+1+1) s4 1 3 (hl.ext hE) (by omega) (by omega)) (fun v A' hv=>?_))
  refine⟨.inr (Keeps.one (.tail _ (.tail _ (List.mem_append_right _ (.head _)))) Keeps.nil),?_⟩
  obtain⟨r3,s5,rfl,hr3,hsb⟩:=hv
  refine Any.sb (.cons (.cons (hsb.app .refl))) ?_
  refine ae (i:=5) rfl an rfl rfl (DN (parts:=[⟨_,_⟩,⟨_,_⟩,⟨_,_⟩,⟨_,_⟩]) (cs:= #[I 1,I 1,I 2,I r3]) rfl rfl (by decide) (by decide) (by kernel_rfl) fun aAN _ _=>⟨.inr (Keeps.one (.tail _ (.tail _ (.tail _ (.tail _ (.head _))))) Keeps.nil),?_⟩)
  refine ae (i:=6) rfl an rfl rfl (QZ (args:=[_,_]) rfl rfl (.tail (.tail (.tail (.head (A:=[(b,_)]))))) (fun h' hE hL=>YM _ h' nums lv b (k1+1+1+1) s5 [1,1,2,r3] _ (hl.ext hE) (Sl.mk (hL aAN _ (.head _)) rfl (Part.all [I 1,I 1,I 2,I r3])) (by omega) (by simp) (by simp)) (fun v A' hv=>?_))
  refine⟨.inr (Keeps.one (.tail _ (.tail _ (.tail _ (List.mem_append_right _ (.head _))))) Keeps.nil),?_⟩
  obtain⟨d2,s6,rfl,-,hsb⟩:=hv
  refine Any.sb (.cons (.cons (.cons (hsb.app .refl)))) ?_
  refine ae (i:=7) rfl an rfl rfl (DN (parts:=[⟨_,_⟩]) (cs:= #[I d2]) rfl rfl (by decide) (by decide) (by kernel_rfl) fun aCO _ _=>⟨.inr (Keeps.one (.tail _ (.tail _ (.tail _ (.tail _ (.tail _ (.head _)))))) Keeps.nil),?_⟩)
  refine ae (i:=8) rfl an rfl rfl (iW (row:=fH) (l':=[d2]) rfl rfl rfl hR (.tail (.tail (.tail (.tail (.app (.tail (.tail (.app .all)))))))) (fun h2 _ hl=>Sl.mk (hl aCO _ (.head _)) rfl (Part.all (flat fH [d2]))) (by simp;omega) (by decide) rfl (fun v3 R2 hR2=>?_))
  refine⟨.inr (Keeps.one (.tail _ (.tail _ (.tail _ (.tail _ (.tail _ (.head _)))))) Keeps.nil),?_⟩
  obtain⟨ra2,rc2,rfl⟩:=hR2.dA
  refine xq 9 (ay rfl rfl) rfl ?_
  refine ae (i:=10) rfl an rfl rfl (eS rfl rfl rfl ?_)
  refine⟨.inl (by kernel_rfl),?_⟩
  refine az ?_
  refine dI<|aA<|W.region rfl<|qm rfl rfl rfl ?_
  refine ag5 rfl ?_
  refine agb rfl rfl rfl<|pq ?_
  refine⟨rfl,0,((ls++[⟨n,n+d⟩],_),(lr++[d2],_)),((k1+1+1+1+1,s6),(S2,R2)),⟨by omega,by simp;omega,by simp;omega,hS2,hR2,by dsimp only;omega⟩,by omega,⟨lk rfl rfl,rfl,rfl,rfl,rfl,rfl,trivial⟩,.skip rfl (.skip rfl (.skip rfl (.skip rfl .refl)))⟩
 ·obtain rfl:i=0:=by omega
  obtain⟨s0,rfl⟩:=List.length_eq_one_iff.1 (by omega:ls.length=1)
  obtain⟨r0,rfl⟩:=List.length_eq_one_iff.1 (by omega:lr.length=1)
  refine W.exit<|bP<|bP<|gG<|aA<|W.seq<|W.region rfl<|qm rfl rfl rfl ?_
  refine cg (A:=[(b,_)]) .head (fun h' hE hL=>UD _ h' nums lv b k1 s2 1 9 (hl.ext hE) (by omega) (by omega)) (fun v A' hv=>?_)
  obtain⟨m1,s7,rfl,hm1,hsb⟩:=hv
  refine Ops.sb (hsb.app .refl) ?_
  refine agb rfl rfl rfl<|pq<|W.seq<|W.region rfl<|qm rfl rfl rfl<|qm rfl rfl rfl<|qm rfl rfl rfl ?_
  refine cg (A:=[(b,_)]) .head (fun h' hE hL=>UD _ h' nums lv b (k1+1) s7 1 4 (hl.ext hE) (by omega) (by omega)) (fun v A' hv=>?_)
  obtain⟨m2,s8,rfl,hm2,hsb⟩:=hv
  refine Ops.sb (hsb.app .refl) ?_
  refine ag1 rfl ?_
  refine qm rfl rfl rfl<|qm rfl rfl rfl ?_
  refine cg (A:=[(b,_)]) .head (fun h' hE hL=>UD _ h' nums lv b (k1+1+1) s8 5 11 (hl.ext hE) (by omega) (by omega)) (fun v A' hv=>?_)
  obtain⟨m3,s9,rfl,hm3,hsb⟩:=hv
  refine Ops.sb (hsb.app .refl) ?_
  refine ag1 rfl ?_
  refine Ops.NK (cs:= #[I m1,I (m1+m2),I (m1+m3)]) (fun ao3=>?_) rfl
  refine agY rfl ?_
  refine Ops.yG ?_
  refine pq<|W.seq<|W.seq<|W.region rfl<|qm rfl rfl rfl<|qm rfl rfl rfl ?_
  refine cg (A:=[(b,_)]) (.tail .head) (fun h' hE hL=>UD _ h' nums lv b (k1+1+1+1) s9 1 4 (hl.ext hE) (by omega) (by omega)) (fun v A' hv=>?_)
  obtain⟨tk,s10,rfl,htk,hsb⟩:=hv
  refine Ops.sb (.cons (hsb.app .refl)) ?_
  obtain⟨T,rfl⟩:∃T:Nat,tk=T:=⟨tk.toNat,by omega⟩
  refine agb rfl rfl rfl<|pq<|W.block ?_
  refine W.Js (σ:=Nat) (τ:=List Spn×Value) (υ:=(Nat×Int)×ah) (fun i t u=>i≤T∧t.1.length+i=T∧Os eG Spn.row t.2 t.1 u.2∧u.1.1+2*i≤k+60+2*T) (fun i _ _=>[(11,I i),(7,bI Vo),(6,bI yC),(0,bI b)])
   (fun _ t u=>(b,wF lv u.1.1 u.1.2)::(Vo,.cells (awE (.slice va [s0].length vc) (.slice ra [r0].length rc) (.slice (some ⟨ao3,0,none⟩) 3 3) t.2) zf (0,0))::(yC,.cells (awE (.slice none 0 0) (.slice none 0 0) (.slice none 0 0) (.slice none 0 0)) zf (0,0))::(u.2++((ao3,.cells #[I m1,I (m1+m2),I (m1+m3)] dL (0,0))::(Ss++Sr)))) (fun i _ _=>i) T ([],.slice none 0 0) ((k1+1+1+1+1,s10),[]) ⟨Nat.le_refl _,by simp,.nil .nil,by dsimp only;omega⟩ ⟨rfl,rfl,rfl,rfl,trivial⟩ ?_ ?_
  ·exact .dF (List.perm_middle (l₁:=[_,_,_]))
  rintro i ⟨lh,vh⟩ ⟨⟨k2,s11⟩,Sh⟩ ⟨hi,h1,hH,hk2⟩
  dsimp only at*
  obtain⟨ha,hc,rfl⟩:=hH.dA
  refine W.seq<|W.seq<|W.region rfl<|qm rfl rfl rfl ?_
  refine agW (rC rfl rfl rfl) rfl ?_
  refine pq ?_
  refine W.bC rfl (fun c61=>?_) (fun c61=>?_)
  ·have hi1:1≤i:=by omega
   refine W.skip<|aA<|W.seq<|W.block<|W.seq<|W.region rfl<|qm rfl rfl rfl ?_
   refine cg (A:=[(b,_)]) .head (fun h' hE hL=>UC _ h' nums lv b k2 s11 4 (hl.ext hE) (by omega) (by omega)) (fun v A' hv=>?_)
   obtain⟨n,s12,rfl,hn,hsb⟩:=hv
   refine Ops.sb (hsb.app .refl) ?_
   refine agb rfl rfl rfl<|pq ?_
   refine W.DR [(Vo,.cells (awE (.slice va [s0].length vc) (.slice ra [r0].length rc) (.slice (some ⟨ao3,0,none⟩) 3 3) (.slice ha lh.length hc)) zf (0,0))] (n:=14) rfl ?_
   refine xq 0 (ay rfl rfl) rfl ?_
   refine xq 1 (iQ rfl rfl) rfl ?_
   refine xq 2 (aN rfl rfl) rfl ?_
   refine xq 3 (aN rfl rfl) rfl ?_
   refine xq 4 (aN rfl rfl) rfl ?_
   refine ae (i:=5) rfl an rfl rfl (DN (parts:=[⟨_,_⟩,⟨_,_⟩,⟨_,_⟩,⟨_,_⟩]) (cs:= #[I 0,I 1,I 1,I 2]) rfl rfl (by decide) (by decide) (by kernel_rfl) fun aCQ _ _=>⟨.inr (Keeps.one (.tail _ (.tail _ (.head _))) Keeps.nil),?_⟩)
   refine ae (i:=6) rfl an rfl rfl (QZ (args:=[_,_]) rfl rfl (.tail (.head (A:=[(b,_)]))) (fun h' hE hL=>YM _ h' nums lv b (k2+1) s12 [0,1,1,2] _ (hl.ext hE) (Sl.mk (hL aCQ _ (.head _)) rfl (Part.all [I 0,I 1,I 1,I 2])) (by omega) (by simp) (by simp)) (fun v A' hv=>?_))
   refine⟨.inr (Keeps.one (.tail _ (List.mem_append_right _ (.head _))) Keeps.nil),?_⟩
   obtain⟨d,s13,rfl,hd,hsb⟩:=hv
   have hd2:0≤d∧d≤2:=by
    simp only[List.mem_cons,List.not_mem_nil,or_false]at hd
    omega
   refine Any.sb (.cons (hsb.app .refl)) ?_
   first | refine xq 7 (Zi rfl rfl rfl) rfl ?_ | refine xq 7 (MZ rfl rfl rfl) rfl ?_
   refine xq 8 (Tm rfl rfl rfl) rfl ?_
   refine xq 9 (eH rfl rfl rfl) rfl ?_
   refine ae (i:=10) rfl an rfl rfl (DN (parts:=[⟨_,_⟩]) (cs:= #[I n,I (min 4 (n+d))]) rfl rfl (by decide) (by decide) (by kernel_rfl) fun aCR _ _=>⟨.inr (Keeps.one (.tail _ (.tail _ (.tail _ (.head _)))) Keeps.nil),?_⟩)
   refine ae (i:=11) rfl an rfl rfl (iW (row:=Spn.row) (l':=[⟨n,min 4 (n+d)⟩]) rfl rfl rfl hH (.tail (.tail (.app (.tail (.tail .head))))) (fun h2 _ hl=>Sl.mk (hl aCR _ (.head _)) rfl (Part.all (flat Spn.row [⟨n,min 4 (n+d)⟩]))) (by simp;omega) (by decide) rfl (fun v2 S2 hS2=>?_))
   refine⟨.inr (Keeps.one (.tail _ (.tail _ (.tail _ (.head _)))) Keeps.nil),?_⟩
   obtain⟨va2,vc2,rfl⟩:=hS2.dA
   refine xq 12 (ay rfl rfl) rfl ?_
   refine ae (i:=13) rfl an rfl rfl (eS rfl rfl rfl ?_)
   refine⟨.inl (by kernel_rfl),?_⟩
   refine az ?_
   refine dI<|aA<|W.region rfl<|qm rfl rfl rfl ?_
   refine ag5 rfl ?_
   refine agb rfl rfl rfl<|pq ?_
   refine⟨rfl,i-1,(lh++[⟨n,min 4 (n+d)⟩],_),((k2+1+1,s13),S2),⟨by omega,by simp;omega,hS2,by dsimp only;omega⟩,by omega,⟨lk rfl (show I _=I _ by congr 1;omega),rfl,rfl,rfl,trivial⟩,.skip rfl (.skip rfl .refl)⟩
  ·obtain rfl:i=0:=by omega
   refine W.exit<|bP<|bP<|gG<|aA<|W.seq<|W.region rfl ?_
   first | refine ag2 rfl ?_ | refine agW (ady rfl rfl) rfl ?_
   first | refine Ops.jP ?_ | refine Ops.nY ?_
   refine pq<|W.ret ?_
   refine QJ (hv:=D_ zJ) ⟨_,_,_,_,s0,r0,m1,m1+m2,m1+m3,lh,Ss,Sr,[(ao3,.cells #[I m1,I (m1+m2),I (m1+m3)] dL (0,0))],Sh,k2,s11,rfl,hS,hR,.inr ⟨ao3,_,3,[],rfl,rfl,rfl,Nat.le_refl _,Part.all (flat fH [m1,m1+m2,m1+m3]),.nil⟩,hH,by omega,by omega,by omega,by omega,.cons (.skip rfl (.skip rfl (.dF ?_)))⟩
   rw[←List.append_assoc]
   exact(List.perm_middle (l₁:=Ss++Sr)).trans (List.perm_append_comm (l₁:=Sh) (l₂:=(ao3,_)::(Ss++Sr))).symm

theorem aA8(main:Side)(h:Hp)(nums:List Int)(lv:Value)(b k:Nat)(s:Int)(vs vr vm vh vp:Value)(s0:Spn)(hs:List Spn)(hl:Sl h fH lv nums)(hk:k≤100000)(hss:Sl h Spn.row vs [s0])(hhs:Sl h Spn.row vh hs)(hs0:0≤s0.lo∧s0.lo≤s0.hi∧s0.hi≤40)(h5:hs.length≤5)(hp:∀s∈hs,0≤s.lo∧s.lo≤s.hi∧s.hi≤4):
  dV prog main azm #[bI b,.agg #[vs,vr,vm,vh,vp]] h [(b,wF lv k s)]
  (fun v A=>∃vq vw q bf Sq Sw k' s',v= .tuple #[vq,vw]∧Os dL fH vq [q] Sq∧Os dL fH vw bf Sw∧(s0.lo≤q∧q≤s0.hi)∧bf.length=hs.length∧(∀(i:Nat) p s,bf[i]? =some p→hs[i]? =some s→s.lo≤p∧p≤s.hi)∧k'≤k+100∧Sb ((b,wF lv k' s')::(Sq++Sw)) A):=by
 obtain⟨a1,cap1,rfl⟩:=hss.dA
 obtain⟨a4,cap4,rfl⟩:=hhs.dA
 obtain⟨b0,aAy,c0,E0,fz0,e3,hb0,-,hy0,hz0⟩:=hss.at (i:=0) (p:=s0) rfl
 cases e3
 have hx0:c0[aAy+0*2+0]? =some (I s0.lo):=hz0 0 (by decide)
 have hx1:c0[aAy+0*2+1]? =some (I s0.hi):=hz0 1 (by decide)
 clear hz0
 have hl1:[s0].length=1:=rfl
 refine dV.aG az8 rfl (by show 2≤60;decide) [(0,bI b),(1,.agg #[.slice (some ⟨b0,aAy,none⟩) 1 cap1,vr,vm,.slice a4 hs.length cap4,vp])] ⟨rfl,rfl,trivial⟩ ?_
 refine W.seq<|W.region rfl ?_
 refine Ops.box (fun uU=>?_)
 refine agb rfl rfl rfl<|agb rfl rfl rfl<|pq<|W.seq<|W.region rfl<|agb rfl rfl rfl<|agb rfl rfl rfl<|pq ?_
 refine W.seq<|W.seq<|W.region rfl<|agb rfl rfl rfl<|pq<|W.block ?_
 refine W.Js (σ:=Nat) (τ:=List Int×Value) (υ:=(Nat×Int)×ah) (fun i t u=>i≤1∧t.1.length=i∧(∀q∈t.1,s0.lo≤q∧q≤s0.hi)∧Os dL fH t.2 t.1 u.2∧u.1.1=k+i) (fun i t _=>[(8,I i),(6,t.2),(7,.slice none 0 0),(3,bI uU),(0,bI b)])
  (fun _ _ u=>(uU,.cells #[.slice (some ⟨b0,aAy,none⟩) 1 cap1,vr,vm,.slice a4 hs.length cap4,vp] zf (0,0))::(b,wF lv u.1.1 u.1.2)::u.2) (fun i _ _=>1-i) 0 ([],.slice none 0 0) ((k,s),[]) ⟨by decide,rfl,(fun q hq=>by cases hq),.nil .nil,rfl⟩ ⟨rfl,rfl,rfl,rfl,rfl,trivial⟩ .refl ?_
 rintro i ⟨ql,vq⟩ ⟨⟨k1,s1⟩,Sq⟩ ⟨hi,h1,hq1,hQ,hk1⟩
 dsimp only at*
 obtain⟨qa,qc,rfl⟩:=hQ.dA
 refine W.seq<|W.seq<|W.region rfl<|qm rfl rfl rfl ?_
 refine agY rfl ?_
 refine agX rfl ?_
 refine agW (dM rfl rfl) rfl ?_
 refine agW (fO rfl rfl rfl) rfl ?_
 refine pq ?_
 refine W.bC rfl (fun c14=>?_) (fun c14=>?_)
 ·obtain rfl:i=0:=by omega
  refine W.skip<|aA<|W.seq<|W.block ?_
  refine W.DR [(uU,.cells #[.slice (some ⟨b0,aAy,none⟩) 1 cap1,vr,vm,.slice a4 hs.length cap4,vp] zf (0,0))] (n:=18) rfl ?_
  refine xq 0 (aN rfl rfl) rfl ?_
  refine xq 1 (aN rfl rfl) rfl ?_
  refine xq 2 (ay rfl rfl) rfl ?_
  refine xq 3 (iQ rfl rfl) rfl ?_
  refine xq 4 (aN rfl rfl) rfl ?_
  first | refine xq 5 (G_ rfl rfl rfl) rfl ?_ | refine xq 5 (o_ rfl rfl rfl) rfl ?_
  refine xq 6 (ay rfl rfl) rfl ?_
  refine xq 7 (iQ rfl rfl) rfl ?_
  refine xq 8 (ay rfl rfl) rfl ?_
  refine xq 9 (iQ rfl rfl) rfl ?_
  refine xq 10 (aN rfl rfl) rfl ?_
  first | refine xq 11 (G_ rfl rfl rfl) rfl ?_ | refine xq 11 (o_ rfl rfl rfl) rfl ?_
  refine xq 12 (ay rfl rfl) rfl ?_
  refine xq 13 (iQ rfl rfl) rfl ?_
  refine ae (i:=14) rfl an rfl rfl (QZ (args:=[_,_,_]) rfl rfl (.tail (.head (A:=[(b,_)]))) (fun h' hE hL=>UD _ h' nums lv b k1 s1 s0.lo s0.hi (hl.ext hE) (by omega) (by omega)) (fun v A' hv=>?_))
  refine⟨.inr (Keeps.one (.head _) Keeps.nil),?_⟩
  obtain⟨q,s2,rfl,hq,hsb⟩:=hv
  refine Any.sb (.cons (hsb.app .refl)) ?_
  refine ae (i:=15) rfl an rfl rfl (DN (parts:=[⟨_,_⟩]) (cs:= #[I q]) rfl rfl (by decide) (by decide) (by kernel_rfl) fun aul _ _=>⟨.inr (Keeps.one (.tail _ (.head _)) Keeps.nil),?_⟩)
  refine ae (i:=16) rfl an rfl rfl (iW (row:=fH) (l':=[q]) rfl rfl rfl hQ (.tail (.tail (.app .all))) (fun h2 _ hl=>Sl.mk (hl aul _ (.head _)) rfl (Part.all (flat fH [q]))) (by simp;omega) (by decide) rfl (fun v2 S2 hS2=>?_))
  refine⟨.inr (Keeps.one (.tail _ (.head _)) Keeps.nil),?_⟩
  refine xq 17 (jS rfl rfl) rfl ?_
  refine az ?_
  refine dI<|aA<|W.region rfl<|qm rfl rfl rfl ?_
  refine ag1 rfl ?_
  refine agb rfl rfl rfl<|pq ?_
  refine⟨rfl,0+1,(ql++[q],v2),((k1+1,s2),S2),⟨by omega,by rw[List.length_append,h1];rfl,fun y hy=>?_,hS2,by dsimp only;omega⟩,by omega,⟨rfl,rfl,rfl,rfl,rfl,trivial⟩,.skip rfl .refl⟩
  rcases List.mem_append.1 hy with hy | hy
  ·exact hq1 y hy
  ·rw[List.mem_singleton.1 hy];omega
 ·obtain rfl:i=1:=by omega
  obtain⟨q,rfl⟩:=List.length_eq_one_iff.1 h1
  have hqq:=hq1 q (List.mem_cons_self ..)
  refine W.exit<|bP<|bP<|gG<|aA<|W.seq<|W.seq<|W.region rfl<|agb rfl rfl rfl<|Ops.nil ?_
  refine aA<|W.block ?_
  refine W.Js (σ:=Nat) (τ:=List Int×Value) (υ:=(Nat×Int)×ah) (fun i t u=>i≤hs.length∧t.1.length=i∧(∀(j:Nat) p s,t.1[j]? =some p→hs[j]? =some s→s.lo≤p∧p≤s.hi)∧Os dL fH t.2 t.1 u.2∧u.1.1=k+1+i) (fun i t _=>[(9,I i),(7,t.2),(6,.slice qa [q].length qc),(3,bI uU),(0,bI b)])
   (fun _ _ u=>(uU,.cells #[.slice (some ⟨b0,aAy,none⟩) 1 cap1,vr,vm,.slice a4 hs.length cap4,vp] zf (0,0))::(b,wF lv u.1.1 u.1.2)::(u.2++Sq)) (fun i _ _=>hs.length-i) 0 ([],.slice none 0 0) ((k1,s1),[]) ⟨Nat.zero_le _,rfl,(fun j p s hj=>by cases hj),.nil .nil,hk1⟩ ⟨rfl,rfl,rfl,rfl,rfl,trivial⟩ .refl ?_
  rintro i ⟨wl,vw⟩ ⟨⟨k2,s2⟩,Sw⟩ ⟨hi,h2,hw1,hW,hk2⟩
  dsimp only at*
  obtain⟨wa,wc,rfl⟩:=hW.dA
  refine W.seq<|W.seq<|W.region rfl<|qm rfl rfl rfl ?_
  refine agY rfl ?_
  refine agX rfl ?_
  refine agW (dM rfl rfl) rfl ?_
  refine agW (fO rfl rfl rfl) rfl ?_
  refine pq ?_
  refine W.bC rfl (fun c38=>?_) (fun c38=>?_)
  ·obtain⟨sp,hsp,-⟩:=has (show i<hs.length by omega)
   have hspb:=hp sp (List.mem_of_getElem? hsp)
   obtain⟨bh,aym,ch,Eh,fzh,e3,hbh,-,hyh,hzh⟩:=hhs.at hsp
   cases e3
   have aCS:ch[aym+i*2+0]? =some (I sp.lo):=hzh 0 (by decide)
   have aCT:ch[aym+i*2+1]? =some (I sp.hi):=hzh 1 (by decide)
   clear hzh
   refine W.skip<|aA<|W.seq<|W.block ?_
   refine W.DR [(uU,.cells #[.slice (some ⟨b0,aAy,none⟩) 1 cap1,vr,vm,.slice (some ⟨bh,aym,none⟩) hs.length cap4,vp] zf (0,0))] (n:=18) rfl ?_
   refine xq 0 (aN rfl rfl) rfl ?_
   refine xq 1 (aN rfl rfl) rfl ?_
   refine xq 2 (ay rfl rfl) rfl ?_
   refine xq 3 (iQ rfl rfl) rfl ?_
   refine xq 4 (aN rfl rfl) rfl ?_
   first | refine xq 5 (G_ rfl rfl rfl) rfl ?_ | refine xq 5 (o_ rfl rfl rfl) rfl ?_
   refine xq 6 (ay rfl rfl) rfl ?_
   refine xq 7 (iQ rfl rfl) rfl ?_
   refine xq 8 (ay rfl rfl) rfl ?_
   refine xq 9 (iQ rfl rfl) rfl ?_
   refine xq 10 (aN rfl rfl) rfl ?_
   first | refine xq 11 (G_ rfl rfl rfl) rfl ?_ | refine xq 11 (o_ rfl rfl rfl) rfl ?_
   refine xq 12 (ay rfl rfl) rfl ?_
   refine xq 13 (iQ rfl rfl) rfl ?_
   refine ae (i:=14) rfl an rfl rfl (QZ (args:=[_,_,_]) rfl rfl (.tail (.head (A:=[(b,_)]))) (fun h' hE hL=>UD _ h' nums lv b k2 s2 sp.lo sp.hi (hl.ext hE) (by omega) (by omega)) (fun v A' hv=>?_))
   refine⟨.inr (Keeps.one (.head _) Keeps.nil),?_⟩
   obtain⟨n,s3,rfl,hn,hsb⟩:=hv
   refine Any.sb (.cons (hsb.app .refl)) ?_
   refine ae (i:=15) rfl an rfl rfl (DN (parts:=[⟨_,_⟩]) (cs:= #[I n]) rfl rfl (by decide) (by decide) (by kernel_rfl) fun afj _ _=>⟨.inr (Keeps.one (.tail _ (.head _)) Keeps.nil),?_⟩)
   refine ae (i:=16) rfl an rfl rfl (iW (row:=fH) (l':=[n]) rfl rfl rfl hW (.tail (.tail (.app .head))) (fun h2 _ hl=>Sl.mk (hl afj _ (.head _)) rfl (Part.all (flat fH [n]))) (by simp;omega) (by decide) rfl (fun v2 S2 hS2=>?_))
   refine⟨.inr (Keeps.one (.tail _ (.head _)) Keeps.nil),?_⟩
   refine xq 17 (jS rfl rfl) rfl ?_
   refine az ?_
   refine dI<|aA<|W.region rfl<|qm rfl rfl rfl ?_
   refine ag1 rfl ?_
   refine agb rfl rfl rfl<|pq ?_
   refine⟨rfl,i+1,(wl++[n],v2),((k2+1,s3),S2),⟨by omega,by simp;omega,fun j p s hj hs'=>?_,hS2,by dsimp only;omega⟩,by omega,⟨rfl,rfl,rfl,rfl,rfl,trivial⟩,.skip rfl .refl⟩
   rcases Nat.lt_or_ge j wl.length with h | h
   ·rw[List.getElem?_append_left h]at hj
    exact hw1 j p s hj hs'
   ·rw[List.getElem?_append_right h]at hj
    have e:j=i:=by
     rcases Nat.eq_zero_or_pos (j-wl.length)with h' | h'
     ·omega
     ·rw[List.getElem?_eq_none (by simp;omega)]at hj;cases hj
    subst e
    rw[show j-wl.length=0 by omega]at hj
    cases hj
    rw[hsp]at hs'
    cases hs'
    omega
  ·obtain rfl:i=hs.length:=by omega
   refine W.exit<|bP<|bP<|gG<|aA<|W.seq<|W.region rfl<|qm rfl rfl rfl<|qm rfl rfl rfl<|agb rfl rfl rfl ?_
   refine agb rfl rfl rfl<|pq<|W.ret ?_
   exact mg (vs:=[_,_]) ⟨_,_,q,wl,Sq,Sw,k2,s2,rfl,hQ,hW,hqq,h2,hw1,by omega,.skip rfl (.cons (.dF List.perm_append_comm))⟩
end Go.aS

/- What the law on courses calls. Conditions: none; over the given program. -/
namespace Go.aS
set_option maxRecDepth 100000
set_option maxHeartbeats 1000000
abbrev psT:List Pn:=[⟨0,12,0⟩,⟨0,12,1⟩,⟨0,12,2⟩]
def aw8:Nat→List Int→List Nat
 | _,[]=>[]
 | q,a::r=>(q+a.toNat)::aw8 (q+a.toNat) r
theorem aBv:∀{bf:List Int} {q i:Nat},(∀a∈bf,0≤a∧a≤2)→q+2*bf.length≤12→EO psT q bf i= .ok (aw8 q bf)
 | [],q,i,_,_=>rfl
 | a::r,q,i,h,hq=>by
  rw[List.length_cons]at hq
  have ha:=h a (List.mem_cons_self ..)
  have ht:∀p:Pn,p=⟨0,12,0⟩∨p=⟨0,12,1⟩∨p=⟨0,12,2⟩→p.takes q=true:=fun p hp=>by
   rcases hp with rfl | rfl | rfl <;>(simp[Pn.takes];omega)
  have ho:gy psT a.toNat q=q+a.toNat:=by
   have:a=0∨a=1∨a=2:=by omega
   rcases this with rfl | rfl | rfl <;>(simp[gy,Pn.out,psT];omega)
  have hk:P9 psT q a.toNat=true:=by
   have:a=0∨a=1∨a=2:=by omega
   rcases this with rfl | rfl | rfl
   ·exact ht _ (.inl rfl)
   ·exact ht _ (.inr (.inl rfl))
   ·exact ht _ (.inr (.inr rfl))
  have hu:¬outs a 0 ((psT.length:Nat)-1):=by
   unfold outs;simp;omega
  have ih:=aBv (bf:=r) (q:=q+a.toNat) (i:=i+1) (fun x hx=>h x (List.mem_cons_of_mem _ hx)) (by omega)
  rw[EO,if_neg hu,if_neg (by rw[hk];simp),ho,ih]
  rfl
theorem ayn:∀{bf:List Int} {q:Nat},(aw8 q bf).length=bf.length
 | [],_=>rfl
 | a::r,q=>by rw[aw8,List.length_cons,ayn,List.length_cons]
theorem azc:∀{bf:List Int} {q j:Nat},(∀a∈bf,0≤a)→j<bf.length→(zs (aw8 q bf))[j]? =some ((q:Int)+Ju (bf.take (j+1)))
 | [],q,j,_,h=>by simp at h
 | a::r,q,0,hp,_=>by
  have:=hp a (List.mem_cons_self ..)
  simp only[aw8,zs,List.map_cons,List.getElem?_cons_zero,List.take_succ_cons,List.take_zero,aw1]
  congr 1
  simp[Ju];omega
 | a::r,q,j+1,hp,h=>by
  have h0:=hp a (List.mem_cons_self ..)
  have ih:=azc (bf:=r) (q:=q+a.toNat) (j:=j) (fun x hx=>hp x (List.mem_cons_of_mem _ hx)) (by simpa using h)
  simp only[zs]at ih
  simp only[aw8,zs,List.map_cons,List.getElem?_cons_succ,List.take_succ_cons,aw1]
  rw[ih]
  congr 1
  omega
theorem aA9{bf:List Int}{q:Int}(h:∀a∈bf,0≤a∧a≤2)(hq:0≤q∧q≤3)(hl:bf.length≤4):Aq psT q bf=(aw8 q.toNat bf,0):=by
 have hb:kU psT [q]=0:=by
  have:q=0∨q=1∨q=2∨q=3:=by omega
  rcases this with rfl | rfl | rfl | rfl <;>decide
 rw[Aq,if_neg (by rw[hb];simp),if_neg (by omega),aBv h (by omega)]

theorem VU(main:Side)(h:Hp)(l l':List Int)(v v':Value)(hl:Sl h fH v l)(hl':Sl h fH v' l')(hn:l.length≤100000):Pu prog main wY #[v,v'] h (.bool (decide (l=l'))):=by
 obtain⟨a,cap,rfl⟩:=hl.dA
 obtain⟨a',cap',rfl⟩:=hl'.dA
 refine dV.aG KA rfl (by show 2≤32;decide) [(0,.slice a l.length cap),(1,.slice a' l'.length cap')] ⟨rfl,rfl,trivial⟩ ?_
 refine W.seq<|W.region rfl<|agb rfl rfl rfl<|pq<|W.seq<|W.seq<|W.region rfl<|agb rfl rfl rfl<|Ops.nil ?_
 refine aA<|W.block ?_
 refine W.loop (σ:=Nat) (fun k=>k≤l.length∧k≤l'.length∧l.take k=l'.take k) (fun k=>[(5,I k),(0,.slice a l.length cap),(1,.slice a' l'.length cap')]) (fun _=>[]) (fun k=>l.length-k) 0 ⟨Nat.zero_le _,Nat.zero_le _,rfl⟩ ⟨rfl,rfl,rfl,trivial⟩ TW ?_
 rintro k ⟨hk,hk',he⟩
 refine W.seq<|W.seq<|W.region rfl<|qm rfl rfl rfl<|qm rfl rfl rfl ?_
 refine agW (dM rfl rfl) rfl ?_
 refine agW (fO rfl rfl rfl) rfl ?_
 refine qm rfl rfl rfl ?_
 refine Ops.ask (fun afD=>?_) (fun afD=>?_)
 ·refine oq (aN rfl rfl) rfl (ak rfl rfl rfl) rfl rfl ?_
  refine oq (aN rfl rfl) rfl (ak rfl rfl rfl) rfl rfl ?_
  refine oq (dM rfl rfl) rfl (ak rfl rfl rfl) rfl rfl ?_
  refine oq (fO rfl rfl rfl) rfl (ak rfl rfl rfl) rfl rfl ?_
  refine agW (dG rfl rfl rfl) rfl ?_
  refine pq ?_
  refine W.bC rfl (fun c15=>?_) (fun c15=>?_)
  ·obtain⟨p,hp,-⟩:=has (show k<l.length by omega)
   obtain⟨q,hq,-⟩:=has (show k<l'.length by omega)
   obtain⟨b,off,c,E,fz,rfl,hb,-,hy1,hz1⟩:=hl.at hp
   have hx2:c[off+k*1+0]? =some (I p):=hz1 0 (by decide)
   clear hz1
   obtain⟨b',off',c',E',fz',rfl,hb',-,hy2,hz1⟩:=hl'.at hq
   have hx3:c'[off'+k*1+0]? =some (I q):=hz1 0 (by decide)
   clear hz1
   refine W.skip<|aA<|W.seq<|W.block<|W.seq ?_
   refine W.rE (n:=9) rfl ?_
   refine xq 0 (aN rfl rfl) rfl ?_
   refine xq 1 (aN rfl rfl) rfl ?_
   first | refine xq 2 (G_ rfl rfl rfl) rfl ?_ | refine xq 2 (o_ rfl rfl rfl) rfl ?_
   refine xq 3 (iQ rfl rfl) rfl ?_
   refine xq 4 (aN rfl rfl) rfl ?_
   refine xq 5 (aN rfl rfl) rfl ?_
   first | refine xq 6 (G_ rfl rfl rfl) rfl ?_ | refine xq 6 (o_ rfl rfl rfl) rfl ?_
   refine xq 7 (iQ rfl rfl) rfl ?_
   refine xq 8 (nG rfl rfl rfl) rfl ?_
   refine az ?_
   refine aA ?_
   refine W.bC rfl (fun c26=>?_) (fun c26=>?_)
   ·refine W.seq<|W.region rfl<|agb rfl rfl rfl<|pq<|W.ret<|cZ<|aY<|aY<|cZ ?_
    refine aY ?_
    refine uZ ?_
    refine congrArg Value.bool (decide_eq_false fun e=>?_).symm
    subst e
    rw[hp]at hq
    cases hq
    exact c26 rfl
   ·refine W.skip<|dI<|aA<|W.region rfl<|qm rfl rfl rfl ?_
    refine ag1 rfl ?_
    refine agb rfl rfl rfl<|pq ?_
    have hpq:p=q:=Decidable.byContradiction c26
    subst hpq
    exact⟨rfl,k+1,⟨by omega,by omega,by rw[MG hp,MG hq,he]⟩,by omega,⟨rfl,rfl,rfl,trivial⟩,TW⟩
  ·refine W.exit<|bP<|bP<|gG<|aA<|W.seq<|W.region rfl<|qm rfl rfl rfl ?_
   refine agW (dM rfl rfl) rfl ?_
   refine qm rfl rfl rfl ?_
   refine agW (dM rfl rfl) rfl ?_
   refine agW (nD rfl rfl rfl) rfl ?_
   refine agb rfl rfl rfl<|pq<|W.ret ?_
   refine uZ ?_
   refine congrArg Value.bool (decide_eq_decide.2 ⟨fun e=>?_,fun e=>?_⟩)
   ·have e':l.length=l'.length:=by omega
    have hkl:k=l.length:=by omega
    rw[←List.take_length (l:=l),←List.take_length (l:=l'),←e',←hkl,he]
   ·rw[e]
 ·refine Ops.no ?_
  refine Ops.no ?_
  refine Ops.no ?_
  refine Ops.no ?_
  refine agW (iH rfl rfl rfl) rfl ?_
  refine pq ?_
  refine W.bZ ?_
  refine W.exit<|bP<|bP<|gG<|aA<|W.seq<|W.region rfl<|qm rfl rfl rfl ?_
  refine agW (dM rfl rfl) rfl ?_
  refine qm rfl rfl rfl ?_
  refine agW (dM rfl rfl) rfl ?_
  refine agW (nD rfl rfl rfl) rfl ?_
  refine agb rfl rfl rfl<|pq<|W.ret ?_
  refine uZ ?_
  refine congrArg Value.bool (decide_eq_decide.2 ⟨fun e=>?_,fun e=>?_⟩)
  ·have e':l.length=l'.length:=by omega
   have hkl:k=l.length:=by omega
   rw[←List.take_length (l:=l),←List.take_length (l:=l'),←e',←hkl,he]
  ·rw[e]

theorem azR(main:Side)(h:Hp)(l:List Int)(v v':Value)(hl:Sl h fH v l)(hl':Sl h fH v' l)(hn:l.length≤100000):Pu prog main wY #[v,v'] h (.bool true):=by
 have:=VU main h l l v v' hl hl' hn
 rwa[decide_eq_true rfl]at this

theorem aAz(main:Side)(h:Hp)(us us':List Sv)(ls:List Int)(v v':Value)(hu:Sl h ags v us)(hu':Sl h ags v' us')(h1:us.length=ls.length)(h2:us'.length=ls.length)(hn:ls.length≤1000)(hr:∀(k:Nat) s p,us[k]? =some s→ls[k]? =some p→Sl h fH s.val [p])(hr':∀(k:Nat) s p,us'[k]? =some s→ls[k]? =some p→Sl h fH s.val [p]):Pu prog main ayF #[v,v'] h (.bool true):=by
 obtain⟨a,cap,rfl⟩:=hu.dA
 obtain⟨a',cap',rfl⟩:=hu'.dA
 refine dV.aG azB rfl (by show 2≤33;decide) [(0,.slice a us.length cap),(1,.slice a' us'.length cap')] ⟨rfl,rfl,trivial⟩ ?_
 refine W.seq<|W.region rfl<|agb rfl rfl rfl<|pq<|W.seq<|W.seq<|W.region rfl<|agb rfl rfl rfl<|Ops.nil ?_
 refine aA<|W.block ?_
 refine W.loop (σ:=Nat) (fun k=>k≤ls.length) (fun k=>[(5,I k),(0,.slice a us.length cap),(1,.slice a' us'.length cap')]) (fun _=>[]) (fun k=>ls.length-k) 0 (Nat.zero_le _) ⟨rfl,rfl,rfl,trivial⟩ TW ?_
 rintro k hk
 refine W.seq<|W.seq<|W.region rfl<|qm rfl rfl rfl<|qm rfl rfl rfl ?_
 refine agW (dM rfl rfl) rfl ?_
 refine agW (fO rfl rfl rfl) rfl ?_
 refine qm rfl rfl rfl ?_
 refine Ops.ask (fun afD=>?_) (fun afD=>?_)
 ·refine oq (aN rfl rfl) rfl (ak rfl rfl rfl) rfl rfl ?_
  refine oq (aN rfl rfl) rfl (ak rfl rfl rfl) rfl rfl ?_
  refine oq (dM rfl rfl) rfl (ak rfl rfl rfl) rfl rfl ?_
  refine oq (fO rfl rfl rfl) rfl (ak rfl rfl rfl) rfl rfl ?_
  refine agW (dG rfl rfl rfl) rfl ?_
  refine pq ?_
  refine W.bC rfl (fun c15=>?_) (fun c15=>?_)
  ·have hk1:k<ls.length:=by omega
   obtain⟨p,hp,-⟩:=has hk1
   obtain⟨s,hs,-⟩:=has (show k<us.length by omega)
   obtain⟨s',hs',-⟩:=has (show k<us'.length by omega)
   obtain⟨b,off,c,E,fz,rfl,hb,-,hy1,hz1⟩:=hu.at hs
   have hx2:c[off+k*1+0]? =some (.slice s.a s.n s.cap):=hz1 0 (by decide)
   clear hz1
   obtain⟨b',off',c',E',fz',rfl,hb',-,hy2,hz1⟩:=hu'.at hs'
   have hx3:c'[off'+k*1+0]? =some (.slice s'.a s'.n s'.cap):=hz1 0 (by decide)
   clear hz1
   refine W.skip<|aA<|W.seq<|W.block<|W.seq ?_
   refine W.rE (n:=10) rfl ?_
   refine xq 0 (aN rfl rfl) rfl ?_
   refine xq 1 (aN rfl rfl) rfl ?_
   first | refine xq 2 (G_ rfl rfl rfl) rfl ?_ | refine xq 2 (o_ rfl rfl rfl) rfl ?_
   refine xq 3 (iQ rfl rfl) rfl ?_
   refine xq 4 (aN rfl rfl) rfl ?_
   refine xq 5 (aN rfl rfl) rfl ?_
   first | refine xq 6 (G_ rfl rfl rfl) rfl ?_ | refine xq 6 (o_ rfl rfl rfl) rfl ?_
   refine xq 7 (iQ rfl rfl) rfl ?_
   refine Va (i:=8) (fun h' hE hL=>azR _ h' [p] _ _ ((hr k s p hs hp).ext hE) ((hr' k s' p hs' hp).ext hE) (Nat.le_of_ble_eq_true rfl)) ?_
   refine xq 9 (xU rfl rfl) rfl ?_
   refine az ?_
   refine aA ?_
   refine W.bZ ?_
   refine W.skip<|dI<|aA<|W.region rfl<|qm rfl rfl rfl ?_
   refine ag1 rfl ?_
   refine agb rfl rfl rfl<|pq ?_
   exact⟨rfl,k+1,by omega,by omega,⟨rfl,rfl,rfl,trivial⟩,TW⟩
  ·refine W.exit<|bP<|bP<|gG<|aA<|W.seq<|W.region rfl<|qm rfl rfl rfl ?_
   refine agW (dM rfl rfl) rfl ?_
   refine qm rfl rfl rfl ?_
   refine agW (dM rfl rfl) rfl ?_
   refine agW (nD rfl rfl rfl) rfl ?_
   refine agb rfl rfl rfl<|pq<|W.ret ?_
   refine uZ ?_
   refine congrArg Value.bool ?_
   first | exact decide_eq_true (by omega) | (exfalso;omega) | skip
 ·refine Ops.no ?_
  refine Ops.no ?_
  refine Ops.no ?_
  refine Ops.no ?_
  refine agW (iH rfl rfl rfl) rfl ?_
  refine pq ?_
  refine W.bZ ?_
  refine W.exit<|bP<|bP<|gG<|aA<|W.seq<|W.region rfl<|qm rfl rfl rfl ?_
  refine agW (dM rfl rfl) rfl ?_
  refine qm rfl rfl rfl ?_
  refine agW (dM rfl rfl) rfl ?_
  refine agW (nD rfl rfl rfl) rfl ?_
  refine agb rfl rfl rfl<|pq<|W.ret ?_
  refine uZ ?_
  refine congrArg Value.bool ?_
  first | exact decide_eq_true (by omega) | (exfalso;omega) | skip

theorem Uu(main:Side)(h:Hp)(hs:List Spn)(vh:Value)(least:Bool)(hh:Sl h Spn.row vh hs)(h5:hs.length≤5):dV prog main awR #[vh,.bool least] h [] (fun v A=>∃S,Os dL fH v (hs.map fun s=>if least then s.lo else s.hi) S∧Sb S A):=by
 obtain⟨f,hf⟩:∃f:Spn→Int,f=fun s=>if least then s.lo else s.hi:=⟨_,rfl⟩
 rw[←hf]
 obtain⟨a4,cap4,rfl⟩:=hh.dA
 refine dV.aG ax8 rfl (by show 2≤31;decide) [(0,.slice a4 hs.length cap4),(1,.bool least)] ⟨rfl,rfl,trivial⟩ ?_
 refine W.seq<|W.region rfl<|agb rfl rfl rfl<|pq<|W.seq<|W.region rfl<|agb rfl rfl rfl<|pq ?_
 refine W.seq<|W.seq<|W.region rfl<|agb rfl rfl rfl<|pq<|W.block ?_
 refine W.Js (σ:=Nat) (τ:=Value) (υ:=ah) (fun i v S=>i≤hs.length∧Os dL fH v ((hs.take i).map f) S) (fun i v _=>[(6,I i),(5,v),(0,.slice a4 hs.length cap4),(1,.bool least)]) (fun _ _ S=>S) (fun i _ _=>hs.length-i) 0 (.slice none 0 0) [] ⟨Nat.zero_le _,.nil .nil⟩ ⟨rfl,rfl,rfl,rfl,trivial⟩ .refl ?_
 rintro i v S ⟨hi,hS⟩
 obtain⟨wa,wc,rfl⟩:=hS.dA
 refine W.seq<|W.seq<|W.region rfl<|qm rfl rfl rfl<|qm rfl rfl rfl ?_
 refine agW (dM rfl rfl) rfl ?_
 refine agW (fO rfl rfl rfl) rfl ?_
 refine pq ?_
 refine W.bC rfl (fun c10=>?_) (fun c10=>?_)
 ·obtain⟨sp,hsp,-⟩:=has (show i<hs.length by omega)
  obtain⟨bh,aym,ch,Eh,fzh,e3,hbh,-,hyh,hzh⟩:=hh.at hsp
  cases e3
  have aCS:ch[aym+i*2+0]? =some (I sp.lo):=hzh 0 (by decide)
  have aCT:ch[aym+i*2+1]? =some (I sp.hi):=hzh 1 (by decide)
  clear hzh
  have hnx:(hs.take (i+1)).map f=(hs.take i).map f++[f sp]:=by rw[MG hsp,List.map_append];rfl
  refine W.skip<|aA<|W.seq<|W.block<|W.seq<|W.region rfl<|qm rfl rfl rfl<|pq ?_
  refine W.cond rfl (fun c13=>?_) (fun c13=>?_)
  ·have hfs:f sp=sp.lo:=by rw[hf,show least=true from c13];rfl
   refine W.region rfl<|qm rfl rfl rfl<|qm rfl rfl rfl<|qm rfl rfl rfl ?_
   refine ag3 rfl ?_
   refine agY rfl ?_
   refine agX rfl ?_
   refine Ops.NK (cs:= #[I sp.lo]) (fun an4=>?_) rfl
   refine oe rfl wn rfl rfl (iW (row:=fH) (l':=[sp.lo]) rfl rfl rfl hS (.tail .all) (fun h2 _ hl=>Sl.mk (hl an4 _ (.head _)) rfl (Part.all (flat fH [sp.lo]))) (by simp;omega) (by decide) rfl (fun v2 S2 hS2=>?_))
   rw[←hfs]at hS2
   refine agb rfl rfl rfl<|Ops.nil<|dI<|aA<|W.region rfl<|qm rfl rfl rfl ?_
   refine ag1 rfl ?_
   refine agb rfl rfl rfl<|pq ?_
   exact⟨rfl,i+1,v2,S2,⟨by omega,by rw[hnx];exact hS2⟩,by omega,⟨rfl,rfl,rfl,rfl,trivial⟩,.skip rfl .refl⟩
  ·have hfs:f sp=sp.hi:=by rw[hf,show least=false by simpa using c13];rfl
   refine W.region rfl<|qm rfl rfl rfl<|qm rfl rfl rfl<|qm rfl rfl rfl ?_
   refine ag3 rfl ?_
   refine agY rfl ?_
   refine agX rfl ?_
   refine Ops.NK (cs:= #[I sp.hi]) (fun aCU=>?_) rfl
   refine oe rfl wn rfl rfl (iW (row:=fH) (l':=[sp.hi]) rfl rfl rfl hS (.tail .all) (fun h2 _ hl=>Sl.mk (hl aCU _ (.head _)) rfl (Part.all (flat fH [sp.hi]))) (by simp;omega) (by decide) rfl (fun v2 S2 hS2=>?_))
   rw[←hfs]at hS2
   refine agb rfl rfl rfl<|Ops.nil<|dI<|aA<|W.region rfl<|qm rfl rfl rfl ?_
   refine ag1 rfl ?_
   refine agb rfl rfl rfl<|pq ?_
   exact⟨rfl,i+1,v2,S2,⟨by omega,by rw[hnx];exact hS2⟩,by omega,⟨rfl,rfl,rfl,rfl,trivial⟩,.skip rfl .refl⟩
 ·obtain rfl:i=hs.length:=by omega
  refine W.exit<|bP<|bP<|gG<|aA<|W.seq<|W.region rfl<|qm rfl rfl rfl<|agb rfl rfl rfl<|Ops.nil ?_
  refine aA<|W.ret ?_
  simp only[List.take_length]at hS⊢
  exact mg (vs:=[_]) ⟨S,hS,.refl⟩
end Go.aS

/- The law on courses, at two pans. Conditions: none; over the given program. -/
namespace Go.aS
set_option maxRecDepth 100000
set_option maxHeartbeats 1000000
theorem Rws.sl{us:List Sv}{ls:List Int}{B:ah}{h:Hp}(H:Rws us ls B)(hL:∀b o,(b,o)∈B→h b=some o)(k:Nat)(s:Sv)(p:Int)(h1:us[k]? =some s)(h2:ls[k]? =some p):Sl h fH s.val [p]:=by
 obtain⟨β,c,cap,rfl,hm,hp⟩:=H.2.2 k s p h1 h2
 exact Sl.mk (hL β _ hm) rfl hp
theorem aBp:ayl [⟨3,3⟩] [2] (5,7,20) [⟨1,1⟩,⟨2,2⟩]:=by
 refine⟨by decide,by decide,fun s hs=>?_,rfl,fun r hr=>?_,by decide,by decide,by decide,fun s hs=>?_⟩
 ·rw[List.mem_singleton.1 hs];decide
 ·rw[List.mem_singleton.1 hr];decide
 ·rcases List.mem_cons.1 hs with rfl | hs
  ·decide
  ·rw[List.mem_singleton.1 hs];decide
theorem aBH:Aq [⟨0,12,2⟩,⟨5,5,4⟩] 3 [0,1]=([5,9],0):=by kernel_rfl
abbrev awO(Vo yD Uw Yf:Nat):Array Value:=awE (.slice (some ⟨Vo,0,none⟩) 1 1) (.slice (some ⟨yD,0,none⟩) 1 1) (.slice (some ⟨Uw,0,none⟩) 3 3) (.slice (some ⟨Yf,0,none⟩) 2 2)

theorem aA_(main:Side)(h:Hp)(Eg:TypeId)(zg:Nat×Nat)(hg:h 0=some (.cells #[Ur qM] Eg zg)):Pu prog main awG #[] h (.bool true):=by
 refine dV.aG aw0 rfl (by show 0≤48;decide) [] trivial ?_
 refine W.seq<|W.region rfl<|agb rfl rfl rfl<|pq<|W.seq<|W.region rfl ?_
 refine agW (eH rfl rfl rfl) rfl ?_
 refine Ops.NK (cs:= #[I 3,I 3]) (fun Vo=>?_) rfl
 refine Ops.NK (cs:= #[I 2]) (fun yD=>?_) rfl
 refine Ops.NK (cs:= #[I 5,I 7,I 20]) (fun Uw=>?_) rfl
 refine agW (eH rfl rfl rfl) rfl ?_
 refine agW (eH rfl rfl rfl) rfl ?_
 refine Ops.NK (cs:= #[I 1,I 1,I 2,I 2]) (fun Yf=>?_) rfl
 refine agW (eH (cs:=awO Vo yD Uw Yf) rfl rfl (by kernel_rfl)) rfl ?_
 refine Ops.new (fun β1=>?_)
 first | refine Ops.jP ?_ | refine Ops.nY ?_
 refine pq<|W.seq<|W.region rfl ?_
 first | refine ag2 rfl ?_ | refine agW (ady rfl rfl) rfl ?_
 refine Ops.NK (cs:= #[I 3]) (fun Ye=>?_) rfl
 refine Ops.NK (cs:= #[I 1,I 2]) (fun afC=>?_) rfl
 refine c0 (fun h' hE hL=>az5 _ h' _ _ _ _ _ _ ⟨3,3⟩ 2 3 (5,7,20) [⟨1,1⟩,⟨2,2⟩] [1,2] aBp
  ⟨Sl.mk (hL Vo _ (by repeat(first | exact List.Mem.head _ | apply List.Mem.tail))) rfl (Part.all (flat Spn.row [⟨3,3⟩])),Sl.mk (hL yD _ (by repeat(first | exact List.Mem.head _ | apply List.Mem.tail))) rfl (Part.all (flat fH [2])),Sl.mk (hL Uw _ (by repeat(first | exact List.Mem.head _ | apply List.Mem.tail))) rfl (Part.all (flat fH [5,7,20])),Sl.mk (hL Yf _ (by repeat(first | exact List.Mem.head _ | apply List.Mem.tail))) rfl (Part.all (flat Spn.row [⟨1,1⟩,⟨2,2⟩]))⟩
  (
   Sl.mk (hL Ye _ (by repeat(first | exact List.Mem.head _ | apply List.Mem.tail))) rfl (Part.all (flat fH [3]))) (Sl.mk (hL afC _ (.head _)) rfl (Part.all (flat fH [1,2]))) (by decide) rfl (fun i p s hp hs=>by
   rcases i with _ | _ | i
   ·cases hp;cases hs;decide
   ·cases hp;cases hs;decide
   ·cases hp)) (fun v A' hv=>?_)
 obtain⟨w,O,us,B,rfl,hO,hB,hsb⟩:=hv
 obtain⟨oa,oc,rfl⟩:=hO.dA
 refine Ops.sb (hsb.app .refl) ?_
 have hcr:ayx 3 2 ([1,2]:List Int) (([1,2]:List Int).length+1)=[3,5,9]:=by kernel_rfl
 rw[hcr]at hB
 refine qm rfl rfl rfl<|oq (bD rfl rfl rfl) rfl wn rfl rfl<|oq (bD rfl rfl rfl) rfl wn rfl rfl<|agb rfl rfl rfl<|agb rfl rfl rfl<|pq<|W.seq<|W.region rfl ?_
 refine agW (eH rfl rfl rfl) rfl ?_
 refine agW (eH rfl rfl rfl) rfl ?_
 refine Ops.NK (cs:= #[I 0,I 12,I 2,I 5,I 5,I 4]) (fun avR=>?_) rfl
 refine Ops.NK (cs:= #[I 0,I 1]) (fun atf=>?_) rfl
 refine c0 (fun h' hE hL=>aah _ h' [⟨0,12,2⟩,⟨5,5,4⟩] _ 3 [0,1] _ Eg zg (Sl.mk (hL avR _ (.tail _ (.head _))) rfl (Part.all (flat Pn.row [⟨0,12,2⟩,⟨5,5,4⟩]))) (Sl.mk (hL atf _ (.head _)) rfl (Part.all (flat fH [0,1]))) (hE.1 _ _ hg)) (fun v A' hv=>?_)
 rw[aBH]at hv
 obtain⟨w2,S2,rfl,hS2,Oh⟩:=hv
 refine Ops.sb (Oh.app .refl) ?_
 obtain⟨wa,wc,rfl⟩:=hS2.dA
 refine qm rfl rfl rfl<|oq (bD rfl rfl rfl) rfl wn rfl rfl<|oq (bD rfl rfl rfl) rfl wn rfl rfl<|agb rfl rfl rfl<|agb rfl rfl rfl<|pq<|W.seq<|W.region rfl<|qm rfl rfl rfl ?_
 refine agW (nD rfl rfl rfl) rfl ?_
 refine qm rfl rfl rfl ?_
 refine Ops.ask (fun aiC=>?_) (fun aiC=>?_)
 ·refine oq (aN rfl rfl) rfl (ak rfl rfl rfl) rfl rfl ?_
  refine oq (nD rfl rfl rfl) rfl (ak rfl rfl rfl) rfl rfl ?_
  refine agW (dG rfl rfl rfl) rfl ?_
  refine qm rfl rfl rfl ?_
  refine Ops.ask (fun aiD=>?_) (fun aiD=>?_)
  ·refine oq (aN rfl rfl) rfl (ak rfl rfl rfl) rfl rfl ?_
   refine Ops.NK (cs:= #[I 3]) (fun akW=>?_) rfl
   refine Ops.NK (cs:= #[I 5]) (fun aiA=>?_) rfl
   refine Ops.NK (cs:= #[I 9]) (fun aAN=>?_) rfl
   refine Ops.NK (cs:= #[.slice (some ⟨akW,0,none⟩) 1 1,.slice (some ⟨aiA,0,none⟩) 1 1,.slice (some ⟨aAN,0,none⟩) 1 1]) (fun atT=>?_) rfl
   refine cp (fun h' hE hL=>aAz _ h' us [⟨some ⟨akW,0,none⟩,1,1⟩,⟨some ⟨aiA,0,none⟩,1,1⟩,⟨some ⟨aAN,0,none⟩,1,1⟩] [3,5,9] _ _ (hO.sl fun b o hb=>hL b o (.tail _ (.tail _ (.tail _ (.tail _ (List.mem_append_right _ (.tail _ (.tail _ (List.mem_append_left _ (List.mem_append_left _ hb)))))))))) (Sl.mk (hL atT _ (.head _)) rfl (Part.all (flat ags [⟨some ⟨akW,0,none⟩,1,1⟩,⟨some ⟨aiA,0,none⟩,1,1⟩,⟨some ⟨aAN,0,none⟩,1,1⟩]))) hB.1 rfl (Nat.le_of_ble_eq_true rfl)
    (hB.sl fun b o hb=>hL b o (.tail _ (.tail _ (.tail _ (.tail _ (List.mem_append_right _ (.tail _ (.tail _ (List.mem_append_left _ (List.mem_append_right _ hb))))))))))
    (
     fun k s p h1 h2=>by
     rcases k with _ | _ | _ | k
     ·cases h1;cases h2;exact Sl.mk (hL akW _ (.tail _ (.tail _ (.tail _ (.head _))))) rfl (Part.all (flat fH [3]))
     ·cases h1;cases h2;exact Sl.mk (hL aiA _ (.tail _ (.tail _ (.head _)))) rfl (Part.all (flat fH [5]))
     ·cases h1;cases h2;exact Sl.mk (hL aAN _ (.tail _ (.head _))) rfl (Part.all (flat fH [9]))
     ·cases h1)) ?_
   refine agW (dG rfl rfl rfl) rfl ?_
   refine qm rfl rfl rfl ?_
   refine oq (aN rfl rfl) rfl (ak rfl rfl rfl) rfl rfl ?_
   refine Ops.NK (cs:= #[I 5,I 9]) (fun ae_=>?_) rfl
   refine cp (fun h' hE hL=>azR _ h' [5,9] _ _ (hS2.sl fun b o hb=>hL b o (.tail _ (.tail _ (.tail _ (.tail _ (.tail _ (List.mem_append_left _ hb))))))) (Sl.mk (hL ae_ _ (.head _)) rfl (Part.all (flat fH [5,9]))) (Nat.le_of_ble_eq_true rfl)) ?_
   refine agW (dG rfl rfl rfl) rfl ?_
   refine agb rfl rfl rfl<|pq<|W.ret ?_
   first
    | (exfalso;simp at*;done)
    | (refine uZ rfl (hs:=?_);have h1:=hO.shut;have h2:=hB.2.1;have h3:=hS2.shut;repeat(first | exact Shut.nil | assumption | refine Shut.cons rfl ?_ | refine Shut.app ?_ ?_))
  ·refine Ops.no ?_
   refine Ops.no ?_
   refine Ops.no ?_
   refine Ops.no ?_
   refine Ops.no ?_
   refine Ops.no ?_
   refine agW (iH rfl rfl rfl) rfl ?_
   refine qm rfl rfl rfl ?_
   refine Ops.no ?_
   refine Ops.no ?_
   refine Ops.no ?_
   refine agW (iH rfl rfl rfl) rfl ?_
   refine agb rfl rfl rfl<|pq<|W.ret ?_
   first
    | (exfalso;simp at*;done)
    | (refine uZ rfl (hs:=?_);have h1:=hO.shut;have h2:=hB.2.1;have h3:=hS2.shut;repeat(first | exact Shut.nil | assumption | refine Shut.cons rfl ?_ | refine Shut.app ?_ ?_))
 ·refine Ops.no ?_
  refine Ops.no ?_
  refine agW (iH rfl rfl rfl) rfl ?_
  refine qm rfl rfl rfl ?_
  refine Ops.no ?_
  refine Ops.no ?_
  refine Ops.no ?_
  refine Ops.no ?_
  refine Ops.no ?_
  refine Ops.no ?_
  refine agW (iH rfl rfl rfl) rfl ?_
  refine qm rfl rfl rfl ?_
  refine Ops.no ?_
  refine Ops.no ?_
  refine Ops.no ?_
  refine agW (iH rfl rfl rfl) rfl ?_
  refine agb rfl rfl rfl<|pq<|W.ret ?_
  first
   | (exfalso;simp at*;done)
   | (refine uZ rfl (hs:=?_);have h1:=hO.shut;have h2:=hB.2.1;have h3:=hS2.shut;repeat(first | exact Shut.nil | assumption | refine Shut.cons rfl ?_ | refine Shut.app ?_ ?_))
end Go.aS

/- From a law's body to the run of the machine, and to what is claimed of it. Conditions: none; over any program. -/
namespace Go.aS
def QE(P:Program)(main:Side)(f:FuncId)(args:Array Value)(h:Hp)(u:Value):Prop:=
 ∃(fn:Func) (c:Code) (ρ:Env),P.funcs[f]? =some fn∧fn.body=some c∧args.size≤fn.ntmps∧G9 ρ args∧W ⟨P,main,f,fn.ntmps,none,h⟩ c (fun e ρ ds F=>ds=[]∧Shut F∧leave P main fn h (fun v _=>v=u) e ρ [] F) ρ [] []

section
variable{P:Program}{main:Side}{h:Hp}
theorem QE.aG{f:FuncId}{fn:Func}{c:Code}{args:Array Value}{u:Value}(hf:P.funcs[f]? =some fn)(hb:fn.body=some c)(ha:args.size≤fn.ntmps)(ρ:Env)(hρ:G9 ρ args)
  (H:W ⟨P,main,f,fn.ntmps,none,h⟩ c (fun e ρ ds F=>ds=[]∧Shut F∧leave P main fn h (fun v _=>v=u) e ρ [] F) ρ [] []):QE P main f args h u:=⟨fn,c,ρ,hf,hb,ha,hρ,H⟩
variable{fn:Func}{e:Exit}{ρ:Env}{F:ah}
theorem lvq{u:Value}{vs:List Value}(hu:pack vs=u)(he:e= .ret∨e= .normal:=by first | exact .inl rfl | exact .inr rfl)(hv:RI ρ fn.results.toList=some vs:=by rfl)(hs:Shut F:=by repeat(first | exact Shut.nil | assumption | refine Shut.cons rfl ?_ | refine Shut.app ?_ ?_)):([]:List Deferred)=[]∧Shut F∧leave P main fn h (fun v _=>v=u) e ρ [] F:=
 ⟨rfl,hs,mg hu he hv⟩
end
theorem QE.run{P:Program}{f:FuncId}{args:Array Value}{W:World}{u:Value}(hi:P.inits.idxOf? f=none)(T:QE P (GI P (tZ P fun v _=>v=u)) f args (atStart W) u):
  ∃M last o w' t',runNT P (M+1) (Conc.solo (Conc.G (Frame.enter P f args .normal) []) W) #[]=(.ended o w',t')∧runN P M (Conc.solo (Conc.G (Frame.enter P f args .normal) []) W)= .next last∧Go.step P last= .ended o w'∧Conc.Good P (fun v w'=>v=u∧Kept W w') last o w' t':=by
 obtain⟨fn,c,ρ,h1,h2,h3,h4,h5⟩:=T
 exact Mo.run (Mo.top (R:=fun v=>v=u) h1 h2 hi h3 ρ h4 PD (fun b o hb=>(ku.1 hb).2) (fun v w hv _=>hv) h5)

theorem Kept.below{w w':World}(h:Kept w w'):Go.RowKit.Below w.heap.size w {w' with os:=w.os}:=⟨rfl,h.tape,h.output,h.size,h.block⟩

theorem Gl(l:List Int):flat fH l=l.map fun n=>.int .i64 n:=by
 induction l with
 | nil=>rfl
 | cons a l ih=>rw[iV,ih];rfl
theorem Part.ace{c:Array Value}{off:Nat}{xs:List Value}(h:∀j,j<xs.length→c[off+j]? =xs[j]?)(hne:xs≠[]):Part c off xs:=by
 have hlen:off+xs.length≤c.size:=by
  have hpos:0<xs.length:=List.length_pos_iff.2 hne
  have:=h (xs.length-1) (by omega)
  rw[List.getElem?_eq_getElem (by omega)]at this
  rcases Nat.lt_or_ge (off+(xs.length-1)) c.size with h' | h'
  ·omega
  ·rw[Array.getElem?_eq_none h']at this;cases this
 refine⟨c.toList.take off,c.toList.drop (off+xs.length),?_,by simp;omega⟩
 apply List.ext_getElem?
 intro i
 have hsz:c.toList.length=c.size:=by simp
 rcases Nat.lt_or_ge i off with h1 | h1
 ·rw[List.getElem?_append_left (by simp;omega),List.getElem?_take,if_pos h1]
 ·rw[List.getElem?_append_right (by simp;omega)]
  have e1:(c.toList.take off).length=off:=by simp;omega
  rw[e1]
  rcases Nat.lt_or_ge (i-off) xs.length with h2 | h2
  ·rw[List.getElem?_append_left h2,←h _ h2]
   simp only[Array.getElem?_toList]
   congr 1;omega
  ·rw[List.getElem?_append_right h2,List.getElem?_drop]
   congr 1;omega
theorem Sl.atStart{W:World}{a:Addr}{n cap:Nat}{zs:List Int}(hz:n≤zs.length)(h:∀i,i<zs.length→W.cell? (a.add i)=some (.int .i64 (zs.getD i 0))):Sl (atStart W) fH (.slice (some a) n cap) (zs.take n):=by
 refine⟨some a,cap,by rw[List.length_take,Nat.min_eq_left hz],fun hne=>?_⟩
 have hpos:0<n:=by
  rcases Nat.eq_zero_or_pos n with h' | h'
  ·subst h';simp at hne
  ·exact h'
 obtain⟨b,off,spot⟩:=a
 have hsp:spot=none:=by
  have:=h 0 (by omega)
  cases hs:spot with
  | none=>rfl
  | some s=>
   subst hs
   exfalso
   simp only[World.cell?,Addr.add,if_true]at this
   split at this
   ·simp at this
   ·cases this
 subst hsp
 have cell:∀i,i<zs.length→∃c E fz,W.heap[b]? =some (.cells c E fz)∧c[off+i]? =some (.int .i64 (zs.getD i 0)):=fun i hi=>by
  have:=h i hi
  rw[show(⟨b,off,none⟩:Addr).add i=⟨b,off+i,none⟩ by unfold Addr.add;split <;>simp[*]]at this
  simp only[World.cell?]at this
  split at this
  ·rename_i c E fz hb
   exact⟨c,E,fz,hb,by simpa using this⟩
  ·cases this
 obtain⟨c,E,fz,hb,h0⟩:=cell 0 (by omega)
 refine⟨b,off,c,E,fz,rfl,ku.2 ⟨hb,rfl⟩,Part.ace (fun j hj=>?_) ?_⟩
 ·rw[Gl,List.length_map,List.length_take]at hj
  obtain⟨c',E',fz',hb',hj'⟩:=cell j (by omega)
  rw[hb]at hb'
  cases hb'
  rw[hj',Gl,List.getElem?_map,List.getElem?_take,if_pos (by omega),List.getElem?_eq_getElem (by omega)]
  simp[List.getD,List.getElem?_eq_getElem (show j<zs.length by omega)]
 ·rw[Gl]
  intro e
  exact hne (List.map_eq_nil_iff.1 e)
end Go.aS
