/- Treacle, as the document has it. Conditions: none; over the given program. (And 34 texts more.) -/
import Derived.Test.YtkkdgffaohidnaaGreatDoorR13
import Derived.Test.YtkkdgffaohidnaaGreatDoorR10
import Derived.Test.YtkkdgffaohidnaaGreatDoorR11
import Derived.Test.YtkkdgffaohidnaaGreatDoorR14
set_option linter.unusedVariables false
set_option linter.unusedSimpArgs false
set_option linter.unusedSectionVars false

/- Treacle, as the document has it. Conditions: none; over the given program. -/
namespace Go.aS
set_option maxRecDepth 100000
set_option maxHeartbeats 4000000
theorem aii(main:Side)(h:Hp)(n lo hi:Int):Pu prog main ahB #[I n,I lo,I hi] h (.bool (decide (lo≤n)&&decide (n≤hi))):=by
 refine dV.aG ah1 rfl (by show 3≤15;decide) [(0,I n),(1,I lo),(2,I hi)] ⟨rfl,rfl,rfl,trivial⟩ ?_
 refine W.seq<|W.region rfl<|agb rfl rfl rfl<|pq<|W.seq<|W.region rfl<|qm rfl rfl rfl<|qm rfl rfl rfl ?_
 refine agW (IJ rfl rfl rfl) rfl ?_
 refine qm rfl rfl rfl ?_
 refine Ops.ask (fun ae5=>?_) (fun ae5=>?_)
 ·refine oq (aN rfl rfl) rfl (ak rfl rfl rfl) rfl rfl ?_
  refine oq (aN rfl rfl) rfl (ak rfl rfl rfl) rfl rfl ?_
  refine oq (Lr rfl rfl rfl) rfl (ak rfl rfl rfl) rfl rfl ?_
  refine agW (dG rfl rfl rfl) rfl ?_
  refine agb rfl rfl rfl<|pq<|W.ret ?_
  refine uZ ?_
  exact congrArg Value.bool (by simp[*])
 ·refine Ops.no ?_
  refine Ops.no ?_
  refine Ops.no ?_
  refine agW (iH rfl rfl rfl) rfl ?_
  refine agb rfl rfl rfl<|pq<|W.ret ?_
  refine uZ ?_
  exact congrArg Value.bool (by simp[*])
theorem aik(main:Side)(h:Hp)(p:Pn)(q:Int):Pu prog main ahz #[p.val,I q] h (.bool (p.takes q)):=by
 refine dV.aG ah0 rfl (by show 2≤11;decide) [(0,p.val),(1,I q)] ⟨rfl,rfl,trivial⟩ ?_
 refine W.seq<|W.region rfl ?_
 refine Ops.box (cs:= #[I p.lo,I p.hi,I p.sh]) (fun yR=>?_)
 refine agb rfl rfl rfl<|pq<|W.seq<|W.region rfl<|qm rfl rfl rfl ?_
 refine agY rfl ?_
 refine agX rfl ?_
 refine agY rfl ?_
 refine agX rfl ?_
 refine cp (fun h' hE hL=>aii _ h' q p.lo p.hi) ?_
 refine agb rfl rfl rfl<|pq<|W.ret ?_
 exact uZ rfl
end Go.aS

/- Pans that are checked, and which of them take a syrup, as the document has it and as the program has it. Conditions: none; over the given program. -/
namespace Go.aS
set_option maxRecDepth 100000
set_option maxHeartbeats 4000000
theorem akO(n lo hi:Int):(!(decide (lo≤n)&&decide (n≤hi)))=decide (outs n lo hi):=by
 rw[←Bool.decide_and,←decide_not]
 exact decide_eq_decide.2 (by unfold outs;omega)
theorem ak9(main:Side)(h:Hp)(ps:List Pn)(vp:Value)(hf:Sl h Pn.row vp ps):Pu prog main akx #[vp] h (I (nV ps)):=by
 obtain⟨a,cap,rfl⟩:=hf.dA
 refine dV.aG akM rfl (by show 1≤37;decide) [(0,.slice a ps.length cap)] ⟨rfl,trivial⟩ ?_
 refine W.seq<|W.region rfl<|agb rfl rfl rfl<|pq<|W.seq<|W.seq<|W.region rfl<|qm rfl rfl rfl ?_
 refine agW (dM rfl rfl) rfl ?_
 refine agW (rC rfl rfl rfl) rfl ?_
 refine pq ?_
 refine W.bC rfl (fun c7=>?_) (fun c7=>?_)
 ·refine W.seq<|W.region rfl<|agb rfl rfl rfl<|pq<|W.ret<|aY ?_
  refine uZ ?_
  show I _=I _;congr 1;rw[nV,if_pos (by omega)]
 ·have h4:ps.length≤4:=by omega
  have hcp:nV ps=lX ps:=by rw[nV,if_neg (by omega)]
  refine W.skip<|aA<|W.seq<|W.seq<|W.region rfl<|agb rfl rfl rfl<|pq<|W.block ?_
  refine W.loop (σ:=Nat) (fun i=>i≤ps.length∧lX ps=lX (ps.drop i)) (fun i=>[(3,I i),(0,.slice a ps.length cap)]) (fun _=>[]) (fun i=>ps.length-i) 0 ⟨Nat.zero_le _,rfl⟩ ⟨rfl,rfl,trivial⟩ .refl ?_
  rintro i ⟨hi,ht⟩
  refine W.seq<|W.seq<|W.region rfl<|qm rfl rfl rfl<|qm rfl rfl rfl ?_
  refine agW (dM rfl rfl) rfl ?_
  refine agW (fO rfl rfl rfl) rfl ?_
  refine pq ?_
  refine W.bC rfl (fun c11=>?_) (fun c11=>?_)
  ·have hil:i<ps.length:=by omega
   obtain⟨p,hp,hdr⟩:=has hil
   rw[hdr,lX]at ht
   obtain⟨b,off,c,E,fz,hv,hb,hx,hy,hz⟩:=hf.at hp
   cases hv
   have hx':c.extract (off+i*3) (off+i*3+3)= #[I p.lo,I p.hi,I p.sh]:=hx
   clear hx
   refine W.skip<|aA<|W.seq<|W.block<|W.seq<|W.region rfl<|qm rfl rfl rfl<|qm rfl rfl rfl ?_
   refine ag3 rfl ?_
   refine ag2 rfl ?_
   refine Ops.new (fun wC=>?_)
   refine Ops.jP (vs:= #[I p.lo,I p.hi,I p.sh]) ?_
   refine pq<|W.seq<|W.seq<|W.region rfl ?_
   refine agY rfl ?_
   refine agX rfl ?_
   refine cp (fun h' hE hL=>aii _ h' p.lo 0 12) ?_
   refine KU (xU rfl rfl) (congrArg Value.bool (akO p.lo 0 12)) rfl wn rfl rfl ?_
   refine qm rfl rfl rfl ?_
   refine Ops.ask (fun alJ=>?_) (fun alJ=>?_)
   ·refine Ops.no ?_
    refine Ops.no ?_
    refine Ops.no ?_
    refine Ops.no ?_
    refine agW (dG rfl rfl rfl) rfl ?_
    refine pq ?_
    refine W.dW ?_
    refine W.seq<|W.region rfl<|agb rfl rfl rfl<|pq<|W.ret<|aY<|cZ<|aY<|aY ?_
    refine cZ<|aY ?_
    have hk:gW p=1:=by rw[gW,if_pos (by first | exact .inl (by assumption) | exact .inr (by assumption))]
    refine uZ ?_
    show I _=I _;congr 1;rw[hcp,ht,hk];rfl
   ·refine oq (ay rfl rfl) rfl (ak rfl rfl rfl) rfl rfl ?_
    refine oq (iQ rfl rfl) rfl (ak rfl rfl rfl) rfl rfl ?_
    refine cp (g:=some _) (fun h' hE hL=>aii _ h' p.hi 0 12) ?_
    refine KU (xU rfl rfl) (congrArg Value.bool (akO p.hi 0 12)) rfl (ak rfl rfl rfl) rfl rfl ?_
    refine agW (iH rfl rfl rfl) rfl ?_
    refine pq ?_
    refine W.bC rfl (fun c27=>?_) (fun c27=>?_)
    ·refine W.seq<|W.region rfl<|agb rfl rfl rfl<|pq<|W.ret<|aY<|cZ<|aY<|aY ?_
     refine cZ<|aY ?_
     have hk:gW p=1:=by rw[gW,if_pos (by first | exact .inl (by assumption) | exact .inr (by assumption))]
     refine uZ ?_
     show I _=I _;congr 1;rw[hcp,ht,hk];rfl
    ·refine W.skip<|aA<|W.seq<|W.seq<|W.region rfl ?_
     refine agY rfl ?_
     refine agX rfl ?_
     refine agY rfl ?_
     refine agX rfl ?_
     refine agW (rC rfl rfl rfl) rfl ?_
     refine pq ?_
     refine W.bC rfl (fun c32=>?_) (fun c32=>?_)
     ·refine W.seq<|W.region rfl<|agb rfl rfl rfl<|pq<|W.ret<|aY<|cZ<|aY<|aY ?_
      refine cZ<|aY ?_
      have hk:gW p=5:=by rw[gW,if_neg (by intro h;rcases h with h | h <;>contradiction),if_pos (by omega)]
      refine uZ ?_
      show I _=I _;congr 1;rw[hcp,ht,hk];rfl
     ·refine W.skip<|aA<|W.seq<|W.region rfl ?_
      refine agY rfl ?_
      refine agX rfl ?_
      refine cp (fun h' hE hL=>aii _ h' p.sh (-6) 6) ?_
      refine KU (xU rfl rfl) (congrArg Value.bool (akO p.sh (-6) 6)) rfl wn rfl rfl ?_
      refine pq ?_
      refine W.bC rfl (fun c36=>?_) (fun c36=>?_)
      ·refine W.seq<|W.region rfl<|agb rfl rfl rfl<|pq<|W.ret<|cZ<|aY<|aY<|cZ ?_
       refine aY ?_
       have hk:gW p=1:=by rw[gW,if_neg (by intro h;rcases h with h | h <;>contradiction),if_neg (by omega),if_pos (by assumption)]
       refine uZ ?_
       show I _=I _;congr 1;rw[hcp,ht,hk];rfl
      ·refine W.skip<|dI<|aA<|W.region rfl<|qm rfl rfl rfl ?_
       refine ag1 rfl ?_
       refine agb rfl rfl rfl<|pq ?_
       have hk:gW p=0:=by rw[gW,if_neg (by intro h;rcases h with h | h <;>contradiction),if_neg (by omega),if_neg (by assumption)]
       exact⟨rfl,i+1,⟨hil,by rw[ht,hk];rfl⟩,by omega,⟨rfl,rfl,trivial⟩,.skip rfl .refl⟩
  ·refine W.exit<|bP<|bP<|gG<|aA<|W.seq<|W.region rfl<|agb rfl rfl rfl<|pq ?_
   refine W.ret ?_
   obtain rfl:i=ps.length:=by omega
   refine uZ ?_
   show I _=I _;congr 1;rw[hcp,ht,List.drop_length];rfl
theorem akP{ps:List Pn}{q:Int}:kU ps [q]=if nV ps≠0 then nV ps else if outs q 0 12 then 1 else 0:=by
 unfold kU;simp
theorem ald(main:Side)(h:Hp)(ps:List Pn)(vp:Value)(q:Int)(hf:Sl h Pn.row vp ps):Pu prog main aky #[vp,I q] h (I (kU ps [q])):=by
 obtain⟨a,cap,rfl⟩:=hf.dA
 refine dV.aG akN rfl (by show 2≤14;decide) [(0,.slice a ps.length cap),(1,I q)] ⟨rfl,rfl,trivial⟩ ?_
 refine W.seq<|W.region rfl<|agb rfl rfl rfl<|pq<|W.seq<|W.seq<|W.region rfl<|qm rfl rfl rfl ?_
 refine cp (fun h' hE hL=>ak9 _ h' ps _ (hf.ext hE)) ?_
 refine agb rfl rfl rfl<|pq<|W.seq<|W.region rfl<|qm rfl rfl rfl ?_
 refine agW (nG rfl rfl rfl) rfl ?_
 refine pq ?_
 refine W.bC rfl (fun c9=>?_) (fun c9=>?_)
 ·refine W.seq<|W.region rfl<|qm rfl rfl rfl<|agb rfl rfl rfl<|pq<|W.ret<|aY ?_
  refine uZ ?_
  show I _=I _;congr 1;rw[akP,if_pos (by assumption)]
 ·refine W.skip<|aA<|W.seq<|W.seq<|W.region rfl<|qm rfl rfl rfl ?_
  refine cp (fun h' hE hL=>aii _ h' q 0 12) ?_
  refine KU (xU rfl rfl) (congrArg Value.bool (akO q 0 12)) rfl wn rfl rfl ?_
  refine pq ?_
  refine W.bC rfl (fun c13=>?_) (fun c13=>?_)
  ·refine W.seq<|W.region rfl<|agb rfl rfl rfl<|pq<|W.ret<|aY ?_
   refine uZ ?_
   show I _=I _;congr 1;rw[akP,if_neg (by assumption),if_pos (by assumption)]
  ·refine W.skip<|aA<|W.seq<|W.region rfl<|agb rfl rfl rfl<|pq<|W.ret ?_
   refine uZ ?_
   show I _=I _;congr 1;rw[akP,if_neg (by assumption),if_neg (by assumption)]
def TkF(ps:List Pn)(q:Int):List Nat×Int:=if kU ps [q]≠0 then([],kU ps [q])else((List.range ps.length).filter fun i=>P9 ps q i,0)
theorem aln{ps:List Pn}{q:Int}:(TkF ps q).1.length≤4:=by
 unfold TkF
 split
 ·simp
 ·rename_i h
  have h4:ps.length≤4:=(Sj (by simpa using h)).1.len
  exact Nat.le_trans (List.length_filter_le ..) (by simpa using h4)
theorem ak_(main:Side)(h:Hp)(ps:List Pn)(vp:Value)(q:Int)(hf:Sl h Pn.row vp ps):dV prog main akt #[vp,I q] h [] (fun v A=>∃w S,v= .tuple #[w,I (TkF ps q).2]∧Os dL fH w (zs (TkF ps q).1) S∧Sb S A):=by
 obtain⟨a,cap,rfl⟩:=hf.dA
 refine dV.aG akL rfl (by show 2≤32;decide) [(0,.slice a ps.length cap),(1,I q)] ⟨rfl,rfl,trivial⟩ ?_
 refine W.seq<|W.region rfl<|agb rfl rfl rfl<|agb rfl rfl rfl<|pq<|W.seq<|W.seq<|W.region rfl<|qm rfl rfl rfl ?_
 refine qm rfl rfl rfl ?_
 refine cp (fun h' hE hL=>ald _ h' ps _ q (hf.ext hE)) ?_
 refine agb rfl rfl rfl<|pq<|W.seq<|W.region rfl<|qm rfl rfl rfl ?_
 refine agW (nG rfl rfl rfl) rfl ?_
 refine pq ?_
 refine W.bC rfl (fun c13=>?_) (fun c13=>?_)
 ·refine W.seq<|W.region rfl<|qm rfl rfl rfl<|agb rfl rfl rfl<|agb rfl rfl rfl<|pq<|W.ret<|aY ?_
  refine mg (vs:=[_,_]) ?_
  rw[TkF,if_pos (by assumption)]
  exact⟨_,[],rfl,.nil .nil,.nil (by repeat(first | exact Shut.nil | refine Shut.cons rfl ?_))⟩
 ·have h0:kU ps [q]=0:=by simpa using c13
  have h4:ps.length≤4:=(Sj h0).1.len
  refine W.skip<|aA<|W.seq<|W.region rfl<|agb rfl rfl rfl<|pq<|W.seq<|W.seq<|W.region rfl ?_
  refine agb rfl rfl rfl<|pq<|W.block ?_
  refine W.Js (fun(k:Nat) (v:Value) (S:ah)=>k≤ps.length∧Os dL fH v (zs ((List.range k).filter fun i=>P9 ps q i)) S) (fun k v S=>[(8,I k),(7,v),(0,.slice a ps.length cap),(1,I q)]) (fun k v S=>S) (fun k _ _=>ps.length-k) 0 (.slice none 0 0) [] ⟨Nat.zero_le _,.nil .nil⟩ ⟨rfl,rfl,rfl,rfl,trivial⟩ .refl ?_
  rintro k v S ⟨hk,hS⟩
  refine W.seq<|W.seq<|W.region rfl<|qm rfl rfl rfl<|qm rfl rfl rfl ?_
  refine agW (dM rfl rfl) rfl ?_
  refine agW (fO rfl rfl rfl) rfl ?_
  refine pq ?_
  refine W.bC rfl (fun c18=>?_) (fun c18=>?_)
  ·have hkl:k<ps.length:=by omega
   have hlen:(zs ((List.range k).filter fun i=>P9 ps q i)).length≤4:=by rw[kT];exact Nat.le_trans (List.length_filter_le ..) (by simp;omega)
   obtain⟨p,hp,-⟩:=has hkl
   have hta:P9 ps q k=p.takes q:=by unfold P9;rw[hp]
   obtain⟨b,off,c,E,fz,hv,hb,hx,hy,hz⟩:=hf.at hp
   cases hv
   have hx':c.extract (off+k*3) (off+k*3+3)= #[I p.lo,I p.hi,I p.sh]:=hx
   clear hx hz
   refine W.skip<|aA<|W.seq<|W.block<|W.seq<|W.region rfl<|qm rfl rfl rfl<|qm rfl rfl rfl ?_
   refine ag3 rfl ?_
   refine ag2 rfl ?_
   refine qm rfl rfl rfl ?_
   refine cp (fun h' hE hL=>aik _ h' p q) ?_
   refine pq ?_
   refine W.cond rfl (fun c26=>?_) (fun c26=>?_)
   ·refine W.region rfl<|qm rfl rfl rfl<|qm rfl rfl rfl ?_
    refine Ops.NK (cs:= #[I k]) (fun am3=>?_) rfl
    refine oe rfl wn rfl rfl (iW (row:=fH) (l':=[(k:Int)]) rfl rfl rfl hS (.tail .all) (fun h2 _ hl=>Sl.mk (hl am3 _ (.head _)) rfl (Part.all [I k])) (by simp;omega) (by decide) rfl (fun v' S' hS'=>?_))
    refine agb rfl rfl rfl<|Ops.nil<|dI<|aA<|W.region rfl<|qm rfl rfl rfl ?_
    refine ag1 rfl ?_
    refine agb rfl rfl rfl<|pq ?_
    exact⟨rfl,k+1,v',S',⟨by omega,by rw[List.range_succ,List.filter_append,X3];simpa[zs,hta,c26]using hS'⟩,by omega,⟨rfl,rfl,rfl,rfl,trivial⟩,.skip rfl .refl⟩
   ·refine W.skip<|dI<|aA<|W.region rfl<|qm rfl rfl rfl ?_
    refine ag1 rfl ?_
    refine agb rfl rfl rfl<|pq ?_
    exact⟨rfl,k+1,v,S,⟨by omega,by rw[List.range_succ,List.filter_append,X3];simpa[zs,hta,c26]using hS⟩,by omega,⟨rfl,rfl,rfl,rfl,trivial⟩,.refl⟩
  ·refine W.exit<|bP<|bP<|gG<|aA<|W.seq<|W.region rfl<|qm rfl rfl rfl<|agb rfl rfl rfl<|agb rfl rfl rfl ?_
   refine pq<|W.ret ?_
   obtain rfl:k=ps.length:=by omega
   refine mg (vs:=[_,_]) ?_
   rw[TkF,if_neg (by assumption)]
   exact⟨_,S,rfl,hS,.refl⟩
theorem ale{ps:List Pn}{q:Nat}(h4:ps.length≤4):bQ ps 0 q=(List.range ps.length).filter fun i=>P9 ps q i:=by
 have e:List.range 4=List.range ps.length++(List.range (4-ps.length)).map (ps.length+ ·):=by
  rw[←List.range_add];congr 1;omega
 rw[bQ,e,List.filter_append]
 have h1:((List.range (4-ps.length)).map (ps.length+ ·)).filter (fun i=>P9 ps q i&& !(0:Nat).testBit i)=[]:=by
  refine List.filter_eq_nil_iff.2 fun i hi=>?_
  obtain⟨j,-,rfl⟩:=List.mem_map.1 hi
  unfold P9
  rw[List.getElem?_eq_none (by omega)];simp
 rw[h1,List.append_nil]
 exact List.filter_congr fun i _=>by simp
theorem ala(main:Side)(h:Hp)(ps:List Pn)(vp:Value)(q:Int)(hf:Sl h Pn.row vp ps):dV prog main akh #[vp,I q] h [] (fun v A=>∃w S,v= .tuple #[w,I (TkF ps q).2]∧Os dL fH w (zs (TkF ps q).1) S∧Sb S A):=by
 obtain⟨a,cap,rfl⟩:=hf.dA
 refine dV.aG akB rfl (by show 2≤21;decide) [(0,.slice a ps.length cap),(1,I q)] ⟨rfl,rfl,trivial⟩ ?_
 refine W.seq<|W.region rfl<|agb rfl rfl rfl<|agb rfl rfl rfl<|pq<|W.seq<|W.region rfl<|qm rfl rfl rfl<|qm rfl rfl rfl ?_
 refine Ops.NK (cs:= #[I q]) (fun KY=>?_) rfl
 refine cp (fun h' hE hL=>Am _ h' ps _ [q] _ (hf.ext hE) (Sl.mk (hL KY _ (.head _)) rfl (Part.all [I q])) (by simp)) ?_
 refine qm rfl rfl rfl<|oq (bD rfl rfl rfl) rfl wn rfl rfl<|oq (bD rfl rfl rfl) rfl wn rfl rfl ?_
 have hcs:∃cs:Array Value,(if kU ps [q]=0 then xJ (.slice a ps.length cap) 0 else LZ)= .agg cs∧cs.size=2∧ones cs.toList=true:=by
  split <;>exact⟨_,rfl,rfl,rfl⟩
 obtain⟨cs,hcs,hcs2,hcs1⟩:=hcs
 rw[hcs]
 refine Ops.new (fun yC=>?_)
 refine Ops.jP (n:=2) (vs:=cs) ?_ (hy:=by rfl) (hn:=hcs2) (h1:=hcs1)
 refine agb rfl rfl rfl<|pq<|W.seq<|W.seq<|W.region rfl<|qm rfl rfl rfl ?_
 refine agW (nG rfl rfl rfl) rfl ?_
 refine pq ?_
 refine W.bC rfl (fun c16=>?_) (fun c16=>?_)
 ·refine W.seq<|W.region rfl<|qm rfl rfl rfl<|agb rfl rfl rfl<|agb rfl rfl rfl<|pq<|W.ret<|aY ?_
  refine mg (vs:=[_,_]) ?_
  rw[TkF,if_pos (by assumption)]
  exact⟨_,[],rfl,.nil .nil,.nil (by repeat(first | exact Shut.nil | refine Shut.cons rfl ?_))⟩
 ·have h0:kU ps [q]=0:=by simpa using c16
  obtain⟨hok,hq0,hq12⟩:=Sj h0
  rw[if_pos h0]at hcs
  cases hcs
  obtain⟨q,rfl⟩:∃n:Nat,q=n:=⟨q.toNat,by omega⟩
  refine W.skip<|aA<|W.seq<|W.region rfl ?_
  refine ag2 rfl ?_
  refine qm rfl rfl rfl ?_
  refine c0 (fun h' hE hL=>EM _ h' ps _ 0 q (hf.ext hE) hok.len (by decide)) (fun v A' hv=>?_)
  obtain⟨S,hS,hsb⟩:=hv
  rw[ale hok.len]at hS
  refine agb rfl rfl rfl<|agb rfl rfl rfl<|pq<|W.ret ?_
  refine mg (vs:=[_,_]) ?_
  rw[TkF,if_neg (by assumption)]
  exact⟨_,S,rfl,hS,.right hsb (by repeat(first | exact Shut.nil | refine Shut.cons rfl ?_))⟩
end Go.aS

/- A way through the pans, as the document has it. Conditions: none; over the given program. -/
namespace Go.aS
set_option maxRecDepth 100000
set_option maxHeartbeats 4000000
theorem apJ(main:Side)(h:Hp)(ps:List Pn)(vp:Value)(q:Int)(way:List Int)(vw:Value)(hf:Sl h Pn.row vp ps)(hw:Sl h fH vw way):dV prog main ao_ #[vp,I q,vw] h []
  (fun v A=>∃w S,v= .tuple #[w,I (Aq ps q way).2]∧Os dL fH w (zs (Aq ps q way).1) S∧Sb S A):=by
 obtain⟨a,cap,rfl⟩:=hf.dA
 obtain⟨a2,cap2,rfl⟩:=hw.dA
 refine dV.aG apw rfl (by show 3≤59;decide) [(0,.slice a ps.length cap),(1,I q),(2,.slice a2 way.length cap2)] ⟨rfl,rfl,rfl,trivial⟩ ?_
 refine W.seq<|W.region rfl<|agb rfl rfl rfl<|agb rfl rfl rfl<|pq<|W.seq<|W.seq<|W.region rfl<|qm rfl rfl rfl ?_
 refine qm rfl rfl rfl ?_
 refine cp (fun h' hE hL=>ald _ h' ps _ q (hf.ext hE)) ?_
 refine agb rfl rfl rfl<|pq<|W.seq<|W.region rfl<|qm rfl rfl rfl ?_
 refine agW (nG rfl rfl rfl) rfl ?_
 refine pq ?_
 refine W.bC rfl (fun c15=>?_) (fun c15=>?_)
 ·refine W.seq<|W.region rfl<|qm rfl rfl rfl<|agb rfl rfl rfl<|agb rfl rfl rfl<|pq<|W.ret<|aY ?_
  refine mg (vs:=[_,_]) ?_
  rw[Aq,if_pos (by assumption)]
  exact⟨_,[],rfl,.nil .nil,.nil .nil⟩
 ·have h0:kU ps [q]=0:=by simpa using c15
  obtain⟨hok,hq0,hq12⟩:=Sj h0
  have h4:=hok.len
  obtain⟨q,rfl⟩:∃n:Nat,q=n:=⟨q.toNat,by omega⟩
  refine W.skip<|aA<|W.seq<|W.seq<|W.region rfl<|qm rfl rfl rfl ?_
  refine agW (dM rfl rfl) rfl ?_
  refine agW (rC rfl rfl rfl) rfl ?_
  refine pq ?_
  refine W.bC rfl (fun c19=>?_) (fun c19=>?_)
  ·refine W.seq<|W.region rfl<|agb rfl rfl rfl<|agb rfl rfl rfl<|pq<|W.ret<|aY ?_
   refine mg (vs:=[_,_]) ?_
   rw[Aq,if_neg (by assumption),if_pos (by omega)]
   exact⟨_,[],rfl,.nil .nil,.nil .nil⟩
  ·have e:Aq ps q way=match EO ps q way 0 with | .ok l=>(l,0) | .error e=>([],e.1):=by rw[Aq,if_neg (by simpa using h0),if_neg (by omega),Int.toNat_natCast] <;>rfl
   rw[e]
   refine W.skip<|aA<|W.seq<|W.region rfl<|agb rfl rfl rfl<|pq<|W.seq<|W.seq<|W.region rfl ?_
   refine agb rfl rfl rfl<|pq<|W.block ?_
   refine W.Js (σ:=Nat) (τ:=Nat×List Nat) (υ:=Value×ah) (fun k s t=>k≤way.length∧s.1<13∧EO ps q way 0=Vr s.2 (EO ps s.1 (way.drop k) k)∧s.2.length=k∧Os dL fH t.1 (zs s.2) t.2)
    (fun k s t=>[(10,I k),(9,t.1),(1,I s.1),(0,.slice a ps.length cap),(2,.slice a2 way.length cap2)]) (fun _ _ t=>t.2) (fun k _ _=>way.length-k) 0 (q,[]) (.slice none 0 0,[]) ⟨Nat.zero_le _,by show q<13;omega,Yd.symm,rfl,.nil .nil⟩ ⟨rfl,rfl,rfl,rfl,rfl,trivial⟩ .refl ?_
   rintro k ⟨q1,acc⟩ ⟨v,S⟩ ⟨hk,hq1,hb,hlen,hO⟩
   simp only at hq1 hb hlen hO⊢
   refine W.seq<|W.seq<|W.region rfl<|qm rfl rfl rfl<|qm rfl rfl rfl ?_
   refine agW (dM rfl rfl) rfl ?_
   refine agW (fO rfl rfl rfl) rfl ?_
   refine pq ?_
   refine W.bC rfl (fun c23=>?_) (fun c23=>?_)
   ·obtain⟨p,hp,hdr⟩:=has (show k<way.length by omega)
    rw[hdr,EO]at hb
    obtain⟨b,off,cc,E,fz,he,hbb,hx,hy,hz⟩:=hw.at hp
    have hx':cc[off+k*1]? =some (I p):=hz 0 (by decide)
    clear hx hz
    cases he
    refine W.skip<|aA<|W.seq<|W.block<|W.seq<|W.seq<|W.region rfl<|qm rfl rfl rfl<|qm rfl rfl rfl ?_
    refine ag3 rfl ?_
    refine agX rfl ?_
    refine qm rfl rfl rfl ?_
    refine agW (dM rfl rfl) rfl ?_
    refine ag5 rfl ?_
    refine cp (fun h' hE hL=>aii _ h' p 0 _) ?_
    refine KU (xU rfl rfl) (congrArg Value.bool (akO p 0 _)) rfl wn rfl rfl ?_
    refine pq ?_
    refine W.bC rfl (fun c34=>?_) (fun c34=>?_)
    ·rw[if_pos c34]at hb
     refine W.seq<|W.region rfl<|agb rfl rfl rfl<|agb rfl rfl rfl<|pq<|W.ret<|aY<|cZ<|aY ?_
     refine aY<|cZ<|aY ?_
     refine mg (vs:=[_,_]) ?_
     rw[hb]
     exact⟨_,[],rfl,.nil .nil,.nil hO.shut⟩
    ·rw[if_neg c34]at hb
     obtain⟨i,rfl⟩:∃i:Nat,p=i:=⟨p.toNat,by simp only[outs]at c34;omega⟩
     rw[Int.toNat_natCast]at hb
     have hi:i<ps.length:=by simp only[outs]at c34;omega
     obtain⟨pn,hpn,-⟩:=has hi
     have hpk:=hok.pan pn (List.mem_of_getElem? hpn)
     have hta:P9 ps q1 i=pn.takes q1:=by unfold P9;rw[hpn]
     have hou:=Vl (q:=q1) hpn
     obtain⟨b2,off2,c2,E2,fz2,hv2,hb2,hx2,hy2,hz2⟩:=hf.at hpn
     cases hv2
     have ar8:c2.extract (off2+i*3) (off2+i*3+3)= #[I pn.lo,I pn.hi,I pn.sh]:=hx2
     clear hx2 hz2
     refine W.skip<|aA<|W.seq<|W.seq<|W.region rfl<|qm rfl rfl rfl<|qm rfl rfl rfl<|qm rfl rfl rfl ?_
     refine ag3 rfl ?_
     refine agX rfl ?_
     refine ag3 rfl ?_
     refine ag2 rfl ?_
     refine qm rfl rfl rfl ?_
     refine cp (fun h' hE hL=>aik _ h' pn q1) ?_
     refine agW (xU rfl rfl) rfl ?_
     refine pq ?_
     refine W.cond rfl (fun c44=>?_) (fun c44=>?_)
     ·rw[if_pos (by simpa[hta]using c44)]at hb
      refine W.seq<|W.region rfl<|agb rfl rfl rfl<|agb rfl rfl rfl<|pq<|W.ret<|aY<|cZ<|aY ?_
      refine aY<|cZ<|aY ?_
      refine mg (vs:=[_,_]) ?_
      rw[hb]
      exact⟨_,[],rfl,.nil .nil,.nil hO.shut⟩
     ·rw[if_neg (by simpa[hta]using c44),←Vs]at hb
      refine W.skip<|aA<|W.seq<|W.region rfl<|qm rfl rfl rfl<|qm rfl rfl rfl<|qm rfl rfl rfl ?_
      refine ag3 rfl ?_
      refine agX rfl ?_
      refine ag3 rfl ?_
      refine ag2 rfl ?_
      refine qm rfl rfl rfl ?_
      refine cp (fun h' hE hL=>ab_ _ h' pn q1 ⟨by omega,by omega⟩ ⟨by omega,by omega⟩) ?_
      refine agb rfl rfl rfl<|pq<|W.region rfl<|qm rfl rfl rfl<|qm rfl rfl rfl ?_
      refine Ops.NK (cs:= #[I (pn.out q1)]) (fun afj=>?_) rfl
      refine oe rfl wn rfl rfl (iW (row:=fH) (l':=[pn.out q1]) rfl rfl rfl hO (.tail .all) (fun h2 _ hl=>Sl.mk (hl afj _ (.head _)) rfl (Part.all [I (pn.out q1)])) (by rw[kT];simp;omega) (by decide) rfl (fun v' S' Ie=>?_))
      refine agb rfl rfl rfl<|Ops.nil<|dI<|aA<|W.region rfl<|qm rfl rfl rfl ?_
      refine ag1 rfl ?_
      refine agb rfl rfl rfl<|pq ?_
      rw[←hou]at Ie
      exact⟨rfl,k+1,(gy ps i q1,acc++[gy ps i q1]),(v',S'),⟨by omega,AZ,hb,by simp[hlen],by simpa[zs]using Ie⟩,by omega,⟨rfl,rfl,lk rfl (by rw[hou]),rfl,rfl,trivial⟩,.skip rfl .refl⟩
   ·refine W.exit<|bP<|bP<|gG<|aA<|W.seq<|W.region rfl<|qm rfl rfl rfl<|agb rfl rfl rfl<|agb rfl rfl rfl ?_
    refine pq<|W.ret ?_
    obtain rfl:k=way.length:=by omega
    rw[List.drop_length,EO,Vr,List.append_nil]at hb
    refine mg (vs:=[_,_]) ?_
    rw[hb]
    exact⟨_,S,rfl,hO,.refl⟩
end Go.aS

/- Operations that come up in any order and only add to what is owned. Conditions: none; over any program. -/
namespace Go.aS
abbrev Spc:=Nat×Nat×(Value→ah→Prop)
def waits(ops:Array Oper):Nat→Nat→Nat→Bool
 | 0,_,_=>false
 | n+1,k,b=>match ops[k]? with | some o=>o.after.any fun e=>iG e&&(Nat.beq e.on b|| waits ops n e.on b) | none=>false
structure Y4(ops:Array Oper)(listed:Nat)(B:List Nat):Prop where
 cl:Closed ops listed
 low:∀k o,ops[k]? =some o→∀e∈o.after,iG e=true→e.on<k
 or:∀k,k<ops.size→listed.testBit k=false→k∈B∨∀b∈B,waits ops 6 k b=true
 un:∀b∈B,b<ops.size∧listed.testBit b=false
 nd:B.Nodup

theorem Y4.some{ops:Array Oper}{listed:Nat}{B:List Nat}(h:Y4 ops listed B){b:Nat}(hb:b∈B):qx ops listed≠[]:=by
 have key:∀(n k:Nat),k<n→k<ops.size→listed.testBit k=false→∃i,Fq ops listed i=true:=by
  intro n
  induction n with
  | zero=>intro k hk;omega
  | succ n ih=>
   intro k hk hlt hl
   by_cases hr:Fq ops listed k=true
   ·exact⟨k,hr⟩
   ·simp only[Fq,Array.getElem?_eq_getElem hlt,hl,Bool.not_false,Bool.true_and,Array.all_eq_true_iff_forall_mem,Bool.or_eq_true,Bool.not_eq_true']at hr
    have:∃e∈(ops[k]).after,iG e=true∧listed.testBit e.on=false:=by
     refine Classical.byContradiction fun hn=>hr fun e he=>?_
     cases hbe:iG e with
     | false=>exact .inl rfl
     | true=>
      cases ht:listed.testBit e.on with
      | true=>exact .inr rfl
      | false=>exact absurd ⟨e,he,hbe,ht⟩ hn
    obtain⟨e,he,h1,h2⟩:=this
    have:=h.low k _ (Array.getElem?_eq_getElem hlt) e he h1
    exact ih e.on (by omega) (by omega) h2
 obtain⟨i,hi⟩:=key (b+1) b (by omega) (h.un b hb).1 (h.un b hb).2
 intro e
 have:=o8.2 hi
 rw[e]at this
 cases this

theorem Y4.step{ops:Array Oper}{listed j:Nat}{B1 B2:List Nat}(h:Y4 ops listed (B1++j::B2))(hj:Fq ops listed j=true):Y4 ops (listed||| 2 ^ j) (B1++B2):=by
 have hnd:j∉B1++B2:=by
  have:=(List.perm_middle (a:=j) (l₁:=B1) (l₂:=B2)).nodup_iff.1 h.nd
  exact(List.nodup_cons.1 this).1
 refine⟨h.cl.step hj,h.low,fun k hk hl=>?_,fun b hb=>?_,?_⟩
 ·rw[testBit_or,Bool.or_eq_false_iff]at hl
  have hne:j≠k:=by simpa using hl.2
  rcases h.or k hk hl.1 with h' | h'
  ·left
   rcases List.mem_append.1 h' with h' | h'
   ·exact List.mem_append_left _ h'
   ·rcases List.mem_cons.1 h' with h' | h'
    ·exact absurd h'.symm hne
    ·exact List.mem_append_right _ h'
  ·right
   intro b hb
   refine h' b ?_
   rcases List.mem_append.1 hb with hb | hb
   ·exact List.mem_append_left _ hb
   ·exact List.mem_append_right _ (List.mem_cons_of_mem _ hb)
 ·have hb':b∈B1++j::B2:=by
   rcases List.mem_append.1 hb with hb | hb
   ·exact List.mem_append_left _ hb
   ·exact List.mem_append_right _ (List.mem_cons_of_mem _ hb)
  refine⟨(h.un b hb').1,?_⟩
  rw[testBit_or,(h.un b hb').2,Bool.false_or,decide_eq_false_iff_not]
  rintro rfl
  exact hnd hb
 ·have:=(List.perm_middle (a:=j) (l₁:=B1) (l₂:=B2)).nodup_iff.1 h.nd
  exact(List.nodup_cons.1 this).2

def Adds(x:Cx)(ops:Array Oper)(ε:Ev)(s:Spc):Prop:=
 ∃o,ops[s.1]? =some o∧o.dst=some s.2.1∧d_ o.dst x.n=true∧(∀c,o.op≠ .defer c)∧o.guard=none∧∀e,Cons ε e→∀F,Dx x o e F fun v F'=>∃A Lp,Lp.Perm F'∧s.2.2 v A∧Lp=A++F

theorem Cons.back{ε:Ev}{d:Nat}{v:Value}{e:Operand→Value}(h:Cons (upd ε (some d) v) e)(hd:ε d=none):Cons ε e:=fun y u hy=>h y u (by
 cases y with
 | tmp t=>
  simp only[UK,upd]at hy⊢
  cases hb:Nat.beq t d with
  | true=>rw[Nat.eq_of_beq_eq_true hb,hd]at hy;cases hy
  | false=>exact hy
 | _=>exact hy)

section rules
variable{x:Cx}{Q:Post}{ρ:Env}{ds:List Deferred}{F:ah}{ops:Array Oper}{L:ah}{fuel listed:Nat}
theorem Adds.of{i d:Nat}{P:Value→ah→Prop}{op:Op}{ty:TypeId}{pos:String}{bK:Array Edge}(ho:cO ops.toList i=some ⟨some d,op,ty,pos,bK,none⟩)(hd:Nat.blt d x.n=true)(hn:cu op=true)(H:∀F,Ef x ρ ⟨some d,op,ty,pos,bK,none⟩ F fun v F'=>∃A,P v A∧F'=A++F):Adds x ops (look ρ) (i,d,P):=
 ⟨_,aU ho,rfl,hd,gI hn,rfl,fun e he F=>(H F e fun y v hy=>he y v (by rw[DC];exact hy)).mono fun v F' ⟨Lp,p,A,hv,e⟩=>⟨A,Lp,p,hv,e⟩⟩
theorem Adds.call{i d f:Nat}{P:Value→ah→Prop}{args:List Operand}{ts:Array TypeId}{vs:List Value}{ty:TypeId}{pos:String}{bK:Array Edge}(H:∀h',Ext x.h h'→dV x.P x.main f vs.toArray h' [] P)(ho:cO ops.toList i=some ⟨some d,.call ⟨.value (.func f),args.toArray,ts⟩,ty,pos,bK,none⟩:=by rfl)[FB x.P f](hv:evs ρ args=some vs:=by rfl)(hd:Nat.blt d x.n=true:=by rfl):Adds x ops (look ρ) (i,d,P):=
 .of ho hd rfl fun F=>lQ rfl hv (fun h' hE _=>H h' hE) fun v A' hv=>⟨A',hv,rfl⟩
end rules
end Go.aS
namespace Go.aS
section
variable{α:Type}{row:α→List Value}{w:Nat}[rw':Rw row w]
section
variable{x:Cx}{ρ:Env}{F:ah}{o:Oper}{R:Value→ah→Prop}
end
end
section
variable{x:Cx}{S:ah→Prop}{ρ:Env}{o:Oper}
end
end Go.aS
namespace Go.aS
section
variable{x:Cx}{Q:Post}{ρ:Env}{ds:List Deferred}{ops:Array Oper}{G:ah}{y₁ y₂ y₃ y₄ agp agq:Nat×Obj}{id n:Nat}
end
theorem agQ{α:Type}{l l':List α}(h:∀[DecidableEq α] (a:α),l.count a=l'.count a):l.Perm l':=by
 classical
 exact List.perm_iff_count.2 fun a=>h a
end Go.aS
namespace Go.aS
end Go.aS

/- Slices of slices; makeSlice. Conditions: none; over any program. -/
namespace Go.aS
structure Sv where
  a:Option Addr
  n:Nat
  cap:Nat
abbrev Sv.val(s:Sv):Value:=.slice s.a s.n s.cap
def ags(s:Sv):List Value:=[.slice s.a s.n s.cap]
instance:Rw ags 1:=⟨fun _=>rfl,fun _=>rfl⟩

section
variable{α:Type}{row:α→List Value}{w:Nat}[rw':Rw row w]{E:TypeId}
inductive UG(E:TypeId)(row:α→List Value)[Rw row w]:List Sv→List (List α)→ah→Prop
  | nil:UG E row [] [] []
  | cons {s:Sv} {l:List α} {A B:ah} {vs:List Sv} {ls:List (List α)}:Os E row s.val l A→UG E row vs ls B→UG E row (s::vs) (l::ls) (A++B)
theorem UG.len{vs:List Sv}{ls:List (List α)}{A:ah}(h:UG E row vs ls A):vs.length=ls.length:=by
  induction h with
  | nil=>rfl
  | cons _ _ ih=>simp[ih]
theorem UG.shut{vs:List Sv}{ls:List (List α)}{A:ah}(h:UG E row vs ls A):Shut A:=by
  induction h with
  | nil=>exact .nil
  | cons h _ ih=>exact h.shut.app ih
theorem UG.sl{vs:List Sv}{ls:List (List α)}{A:ah}{h':Hp}(h:UG E row vs ls A)(hL:∀b o,(b,o)∈A→h' b=some o):∀{k:Nat} {s:Sv} {l:List α},vs[k]? =some s→ls[k]? =some l→Sl h' row s.val l:=by
  induction h with
  | nil=>intro k s l hs;simp at hs
  | cons h1 _ ih=>
    intro k s l hs hl
    rcases k with _ | k
    · simp at hs hl;subst hs hl
      exact h1.sl fun b o hb=>hL b o (List.mem_append_left _ hb)
    · simp at hs hl
      exact ih (fun b o hb=>hL b o (List.mem_append_right _ hb)) hs hl
theorem agG{x:Cx}{c:Code}{Q:Post}{ρ:Env}{ds:List Deferred}{A F:ah}{vs:List Sv}{ls:List (List α)}(hs:UG E row vs ls A)
    (H:∀h',Ext x.h h'→(∀(k:Nat) (s:Sv) (l:List α),vs[k]? =some s→ls[k]? =some l→Sl h' row s.val l∧Zs h' s.val)→W {x with h:=h'} c Q ρ ds F):W x c Q ρ ds (A++F):=by
  induction hs generalizing x with
  | nil=>exact H x.h ⟨fun _ _ q=>q,fun _ q=>q⟩ fun k s l hk=>by simp at hk
  | cons h1 h2 ih=>
    rw[List.append_assoc]
    refine JU h1 fun h' hE hsl hz=>ih (x:={x with h:=h'}) fun h'' hE' hall=>H h'' (hE.trans hE') fun k s l hk hl=>?_
    rcases k with _ | k
    · simp at hk hl;subst hk hl
      exact⟨hsl.ext hE',hz.ext hE'⟩
    · simp at hk hl
      exact hall k s l hk hl
theorem Sv.eta{v:Value}{l:List α}{A:ah}(h:Os E row v l A):∃s:Sv,v=s.val:=by
  obtain⟨a,cap,rfl⟩:=h.dA
  exact⟨⟨a,_,cap⟩,rfl⟩
end
/-! makeSlice -/
section
variable{x:Cx}{ρ:Env}{F:ah}{o:Oper}{R:Value→ah→Prop}
end
end Go.aS

/- Several cases of pans. Conditions: none; over the given program. -/
namespace Go.aS
set_option maxRecDepth 100000
set_option maxHeartbeats 4000000
theorem apA(main:Side)(h:Hp)(nums:List Int)(lv:Value)(b k:Nat)(s:Int)(ps:List Pn)(vp:Value)(p:Pn)(hl:Sl h fH lv nums)(hk:k≤5000)(hf:Sl h Pn.row vp ps):dV prog main aoM #[vp,p.val,bI b] h [(b,wF lv k s)]
  (fun v A=>∃(s0:Sv) (vs:List Sv) (ls:List (List Pn)) (S T:ah) (k':Nat) (s':Int),vp=s0.val∧Os aoG ags v (s0::vs) T∧UG Ag Pn.row vs ls S∧(vs.length=3∧∀l∈ls,l.length≤5)∧k'≤k+400∧Sb ((b,wF lv k' s')::T++S) A):=by
 obtain⟨a,cap,rfl⟩:=hf.dA
 refine dV.aG ao9 rfl (by show 3≤22;decide) [(0,.slice a ps.length cap),(1,p.val),(2,bI b)] ⟨rfl,rfl,rfl,trivial⟩ ?_
 refine W.seq<|W.region rfl ?_
 refine Ops.box (cs:= #[I p.lo,I p.hi,I p.sh]) (fun wC=>?_)
 refine agb rfl rfl rfl<|pq<|W.seq<|W.region rfl<|qm rfl rfl rfl ?_
 refine cg (A:=[(b,_)]) (.tail .all) (fun h' hE hL=>VT _ h' nums lv b k s 4 (hl.ext hE) (by omega) (by decide)) (fun v A' hv=>?_)
 obtain⟨l1,S1,k1,s1,hO1,⟨hl1,hck1⟩,hk1,Ym⟩:=hv
 refine Ops.sb (F':=(wC,.cells #[I p.lo,I p.hi,I p.sh] Ag (0,0))::((b,wF lv k1 s1)::S1)) (.cons Ym) ?_
 obtain⟨a1,cap1,rfl⟩:=hO1.dA
 refine qm rfl rfl rfl ?_
 refine cg (A:=[(b,_)]) (.tail .head) (fun h' hE hL=>OA _ h' nums lv b k1 s1 3 (hl.ext hE) (by omega) (by decide)) (fun v A' hv=>?_)
 obtain⟨l2,S2,k2,s2,hO2,⟨hl2,ar9⟩,hk2,Oh⟩:=hv
 refine Ops.sb (F':=(wC,.cells #[I p.lo,I p.hi,I p.sh] Ag (0,0))::((b,wF lv k2 s2)::(S2++S1))) (.cons (Oh.app .refl)) ?_
 obtain⟨a2,cap2,rfl⟩:=hO2.dA
 refine agb rfl rfl rfl<|agb rfl rfl rfl<|pq<|W.seq ?_
 refine W.mono (Q:=(fun e ρ' ds' F'=>e= .normal∧ds'=[]∧∃β w3 S3,Os Ag Pn.row (Sv.val w3) (l2++[p]) S3∧Sub [(6,.slice (some ⟨β,0,none⟩) 4 4)] ρ'∧
   Sb ((β,.cells #[.slice a ps.length cap,.slice a1 l1.length cap1,.slice a2 l2.length cap2,w3.val] aoG (0,0))::(S3++((b,wF lv k2 s2)::(S2++S1)))) F')) ?_ ?_
 ·refine W.DR [(wC,.cells #[I p.lo,I p.hi,I p.sh] Ag (0,0))] (n:=10) rfl ?_
  refine xq 0 (aN rfl rfl) rfl ?_
  refine xq 1 (aN rfl rfl) rfl ?_
  refine xq 2 (aN rfl rfl) rfl ?_
  refine xq 3 (aN rfl rfl) rfl ?_
  first | refine xq 5 (Bf rfl rfl) rfl ?_ | refine xq 5 (zi rfl rfl) rfl ?_
  have hdup:∀{h':Hp},Sl h' Pn.row (.slice a2 l2.length cap2) l2→dV prog main ag_ #[.slice a2 l2.length cap2] h' [] (fun v A=>∃S,Os Ag Pn.row v l2 S∧Sb S A):=fun hs=>aij _ _ l2 _ hs (by omega)
  refine Any.WB (i:=4) (j:=6) (by kernel_rfl) (aU rfl) (aU rfl) an an rfl rfl rfl rfl ?_ ?_
  ·refine QZ (args:=[_]) (A:=[]) rfl rfl (Seg.head (A:=[])) (fun h' hE hL=>hdup (hO2.sl fun b' o hb=>hL b' o (List.mem_cons_of_mem _ (List.mem_cons_of_mem _ (List.mem_append_left _ hb))))) (fun v A' hv=>?_)
   obtain⟨S3,hO3,afy⟩:=hv
   refine⟨.inr (.one (List.mem_append_right _ (.head _)) .nil),Any.sb (afy.app .refl) ?_⟩
   refine abl (i:=6) (cs:= #[I p.lo,I p.hi,I p.sh]) (fun akT=>?_) rfl (hk:=(.one (List.mem_append_right _ (.head _)) .nil)) (hf:=by kernel_rfl)
   refine ae (i:=7) rfl an rfl rfl (iW (row:=Pn.row) (l':=[p]) rfl rfl rfl hO3 (.tail .head) (fun h2 _ hl=>Sl.mk (hl akT _ (.head _)) rfl (Part.all (flat Pn.row [p]))) (by simp;omega) (by decide) rfl (fun v' S' Ie=>?_))
   refine⟨.inr (.one (.tail _ (List.mem_append_right _ (.head _))) .nil),?_⟩
   obtain⟨w3,rfl⟩:=Sv.eta Ie
   refine abl (i:=8) (cs:= #[.slice a ps.length cap,.slice a1 l1.length cap1,.slice a2 l2.length cap2,w3.val]) (fun aqf=>?_) rfl (hk:=(.one (.tail _ (List.mem_append_right _ (.head _))) .nil)) (hf:=by kernel_rfl)
   refine xq 9 (jS rfl rfl) rfl ?_ (hS:=(.one (.tail _ (.tail _ (List.mem_append_right _ (.head _)))) .nil))
   refine az ?_
   exact⟨rfl,rfl,aqf,w3,S',Ie,⟨rfl,trivial⟩,.cons (.skip rfl (.app .refl (.skip rfl .refl)))⟩
  ·refine DN (parts:=[⟨_,_⟩]) (cs:= #[I p.lo,I p.hi,I p.sh]) rfl rfl (by decide) (by decide) (by kernel_rfl) fun akT _ _=>⟨.inr (.one (.tail _ (.head _)) .nil),?_⟩
   refine ae (i:=4) rfl an rfl rfl (QZ (args:=[_]) (A:=[]) rfl rfl (Seg.head (A:=[])) (fun h' hE hL=>hdup (hO2.sl fun b' o hb=>hL b' o (List.mem_cons_of_mem _ (List.mem_cons_of_mem _ (List.mem_cons_of_mem _ (List.mem_append_left _ hb)))))) (fun v A' hv=>?_))
   obtain⟨S3,hO3,afy⟩:=hv
   refine⟨.inr (.one (List.mem_append_right _ (.tail _ (.head _))) .nil),Any.sb (afy.app .refl) ?_⟩
   refine ae (i:=7) rfl an rfl rfl (iW (row:=Pn.row) (l':=[p]) rfl rfl rfl hO3 .head (fun h2 _ hl=>Sl.mk (hl akT _ (.head _)) rfl (Part.all (flat Pn.row [p]))) (by simp;omega) (by decide) rfl (fun v' S' Ie=>?_))
   refine⟨.inr (.one (List.mem_append_right _ (.tail _ (.head _))) .nil),?_⟩
   obtain⟨w3,rfl⟩:=Sv.eta Ie
   refine abl (i:=8) (cs:= #[.slice a ps.length cap,.slice a1 l1.length cap1,.slice a2 l2.length cap2,w3.val]) (fun aqf=>?_) rfl (hk:=(.one (List.mem_append_right _ (.tail _ (.head _))) .nil)) (hf:=by kernel_rfl)
   refine xq 9 (jS rfl rfl) rfl ?_ (hS:=(.one (.tail _ (List.mem_append_right _ (.tail _ (.head _)))) .nil))
   refine az ?_
   exact⟨rfl,rfl,aqf,w3,S',Ie,⟨rfl,trivial⟩,.cons (.app .refl (.skip rfl (.skip rfl .refl)))⟩
 rintro e ρ' ds' F' ⟨rfl,rfl,β,w3,S3,hO3,hE3,afy⟩
 refine aA (W.env hE3 (W.sb afy ?_))
 refine W.ret ?_
 refine mg (vs:=[_]) ⟨⟨a,ps.length,cap⟩,[⟨a1,l1.length,cap1⟩,⟨a2,l2.length,cap2⟩,w3],[l1,l2,l2++[p]],S1++(S2++(S3++[])),[(β,.cells #[.slice a ps.length cap,.slice a1 l1.length cap1,.slice a2 l2.length cap2,w3.val] aoG (0,0))],k2,s2,rfl,?_,.cons hO1 (.cons hO2 (.cons hO3 .nil)),⟨rfl,?_⟩,by omega,?_⟩
 ·exact .inr ⟨β,_,4,[],rfl,rfl,rfl,Nat.le_refl _,Part.all (flat ags [⟨a,ps.length,cap⟩,⟨a1,l1.length,cap1⟩,⟨a2,l2.length,cap2⟩,w3]),.nil⟩
 ·intro l hl
  simp only[List.mem_cons,List.not_mem_nil,or_false]at hl
  rcases hl with rfl | rfl | rfl
  ·omega
  ·omega
  ·simp;omega
 ·refine .dF (agQ fun y=>?_)
  simp only[List.count_append,List.count_cons,List.count_nil];omega
end Go.aS

/- Shut blocks are put by. Conditions: none; over any program. -/
namespace Go.aS
theorem W.cut{x:Cx}{c c2:Code}{Q:Post}{ρ:Env}{ds:List Deferred}{F:ah}(L:Env)(G:ah)(H:W x c (fun e ρ' ds' F'=>e= .normal∧ds'=ds∧Sub L ρ'∧Sb G F') ρ ds F)(K:W x c2 Q L ds G):W x c (thn (fun ρ' ds' F'=>W x c2 Q ρ' ds' F') Q) ρ ds F:=
 W.mono H fun e ρ' ds' F' h=>by
  obtain⟨he,hd,hs,hb⟩:=h
  subst he hd
  exact aA (W.env hs (W.sb hb K))
theorem W.aiB{σ:Type}{x:Cx}{c c2:Code}{Q:Post}{ρ:Env}{ds:List Deferred}{F:ah}(ok:σ→Prop)(L:σ→Env)(G:σ→ah)(H:W x c (fun e ρ' ds' F'=>e= .normal∧ds'=ds∧∃s,ok s∧Sub (L s) ρ'∧Sb (G s) F') ρ ds F)(K:∀s,ok s→W x c2 Q (L s) ds (G s)):W x c (thn (fun ρ' ds' F'=>W x c2 Q ρ' ds' F') Q) ρ ds F:=
 W.mono H fun e ρ' ds' F' h=>by
  obtain⟨he,hd,s,ho,hs,hb⟩:=h
  subst he hd
  exact aA (W.env hs (W.sb hb (K s ho)))
end Go.aS

/- Ways made of numbers. Conditions: none; over the given program. -/
namespace Go.aS
set_option maxRecDepth 100000
set_option maxHeartbeats 4000000
theorem alo{ps:List Pn}{q:Int}{n:Nat}(h:n∈(TkF ps q).1):n<ps.length:=by
 unfold TkF at h
 split at h
 ·cases h
 ·exact List.mem_range.1 (List.mem_filter.1 h).1
theorem alK{ps:List Pn}{q:Int}(h:(TkF ps q).2=0):kU ps [q]=0:=by
 refine Classical.byContradiction fun hn=>?_
 rw[TkF,if_pos hn]at h;exact hn h
theorem alf(main:Side)(h:Hp)(nums:List Int)(lv:Value)(b k:Nat)(s:Int)(ps:List Pn)(vp:Value)(q:Int)(hl:Sl h fH lv nums)(hk:k≤50000)(hf:Sl h Pn.row vp ps)(hp2:ps.length≤1000):dV prog main aks #[bI b,vp,I q] h [(b,wF lv k s)]
  (fun v A=>∃way Sw k' s',Os dL fH v (zs way) Sw∧(way.length≤41∧∀y∈way,y≤4)∧k'≤k+300∧Sb ((b,wF lv k' s')::Sw) A):=by
 obtain⟨a,cap,rfl⟩:=hf.dA
 refine dV.aG akK rfl (by show 3≤55;decide) [(0,bI b),(1,.slice a ps.length cap),(2,I q)] ⟨rfl,rfl,rfl,trivial⟩ ?_
 refine W.seq<|W.region rfl<|agb rfl rfl rfl<|pq<|W.seq<|W.region rfl<|agb rfl rfl rfl<|pq ?_
 refine W.seq<|W.seq<|W.region rfl<|qm rfl rfl rfl ?_
 refine Ops.NK (cs:= #[I 0,I 1,I 2,I 3,I 6,I 41]) (fun X5=>?_) rfl
 refine cg (A:=[(b,_)]) (.tail .all) (fun h' hE hL=>YM _ h' nums lv b k s [0,1,2,3,6,41] _ (hl.ext hE) (Sl.mk (hL X5 _ (.head _)) rfl (Part.all [I 0,I 1,I 2,I 3,I 6,I 41])) (by omega) (by simp) (by simp)) (fun v A' hv=>?_)
 obtain⟨r,s1,rfl,hr,hsb⟩:=hv
 refine Ops.sb (F':=[(b,wF lv (k+1) s1)]) (.skip rfl hsb) ?_
 obtain⟨i0,rfl,hi0⟩:∃n:Nat,r=n∧n≤41:=by
  simp only[List.mem_cons,List.not_mem_nil,or_false]at hr
  exact⟨r.toNat,by omega,by omega⟩
 refine agb rfl rfl rfl<|pq<|W.block ?_
 refine W.loop (σ:=Nat×List Nat×Value×ah×Nat×Int×Int) (fun t=>t.1+t.2.1.length≤41∧Os dL fH t.2.2.1 (zs t.2.1) t.2.2.2.1∧(∀y∈t.2.1,y≤4)∧t.2.2.2.2.1+3*t.1≤k+200) (fun t=>[(8,I t.1),(7,t.2.2.1),(0,bI b),(1,.slice a ps.length cap),(2,I t.2.2.2.2.2.2)])
  (fun t=>(b,wF lv t.2.2.2.2.1 t.2.2.2.2.2.1)::t.2.2.2.1) (fun t=>t.1) (i0,[],.slice none 0 0,[],k+1,s1,q) ⟨by simpa using hi0,.nil .nil,(fun y hy=>by cases hy),by dsimp only;omega⟩ ⟨rfl,rfl,rfl,rfl,rfl,trivial⟩ .refl ?_
 clear hi0 hr hsb
 rintro⟨i,way,v,S,k1,s2,q⟩ ⟨hi,hS,hy4,hk1⟩
 dsimp only at*
 refine W.seq<|W.seq<|W.region rfl<|qm rfl rfl rfl ?_
 refine agW (rC rfl rfl rfl) rfl ?_
 refine pq ?_
 refine W.bC rfl (fun c16=>?_) (fun c16=>?_)
 ·have hi1:1≤i:=by omega
  refine W.skip<|aA<|W.seq<|W.block<|W.seq<|W.region rfl<|qm rfl rfl rfl<|qm rfl rfl rfl ?_
  refine c0 (fun h' hE hL=>ak_ _ h' ps _ q (hf.ext hE)) (fun v' A' hv=>?_)
  obtain⟨w,S2,rfl,hS2,Oh⟩:=hv
  refine Ops.sb (F':=S2++((b,wF lv k1 s2)::S)) (Oh.app .refl) ?_
  obtain⟨aw,cw,rfl⟩:=hS2.dA
  rw[kT]
  have hTl:=aln (ps:=ps) (q:=q)
  refine qm rfl rfl rfl<|oq (bD rfl rfl rfl) rfl wn rfl rfl<|oq (bD rfl rfl rfl) rfl wn rfl rfl<|agb rfl rfl rfl<|agb rfl rfl rfl<|pq<|W.seq<|W.seq<|W.region rfl ?_
  refine qm rfl rfl rfl ?_
  refine agW (nG rfl rfl rfl) rfl ?_
  refine qm rfl rfl rfl ?_
  refine Ops.ask (fun ads=>?_) (fun ads=>?_)
  ·refine Ops.no ?_
   refine Ops.no ?_
   refine Ops.no ?_
   refine agW (dG rfl rfl rfl) rfl ?_
   refine pq ?_
   refine W.dW ?_
   refine W.seq<|W.region rfl<|qm rfl rfl rfl<|agb rfl rfl rfl<|pq<|W.ret<|aY<|cZ<|aY ?_
   refine aY<|cZ<|aY ?_
   exact mg (vs:=[_]) ⟨way,S,k1,s2,hS,⟨by omega,hy4⟩,by omega,.left .refl hS2.shut⟩
  ·refine oq (aN rfl rfl) rfl (ak rfl rfl rfl) rfl rfl ?_
   refine oq (dM rfl rfl) rfl (ak rfl rfl rfl) rfl rfl ?_
   refine oq (nD rfl rfl rfl) rfl (ak rfl rfl rfl) rfl rfl ?_
   refine agW (iH rfl rfl rfl) rfl ?_
   refine pq ?_
   refine W.bC rfl (fun c31=>?_) (fun c31=>?_)
   ·refine W.seq<|W.region rfl<|qm rfl rfl rfl<|agb rfl rfl rfl<|pq<|W.ret<|aY<|cZ<|aY ?_
    refine aY<|cZ<|aY ?_
    exact mg (vs:=[_]) ⟨way,S,k1,s2,hS,⟨by omega,hy4⟩,by omega,.left .refl hS2.shut⟩
   ·have h0:kU ps [q]=0:=alK (by omega)
    obtain⟨hok,hq0,hq12⟩:=Sj h0
    refine W.skip<|aA<|W.seq<|W.region rfl<|qm rfl rfl rfl<|qm rfl rfl rfl ?_
    refine cg (A:=[(b,wF lv k1 s2)]) (.app .head) (fun h' hE hL=>YM _ h' nums lv b k1 s2 (zs (TkF ps q).1) _ (hl.ext hE) (by have:=hS2.sl (fun b o hb=>hL b o (List.mem_append_left _ hb));rw[kT]at this;exact this) (by omega) (by rw[kT];omega) (by rw[kT];omega)) (fun v' A' hv=>?_)
    obtain⟨r,s3,rfl,hr,afy⟩:=hv
    obtain⟨n0,hn0,rfl⟩:=List.mem_map.1 hr
    have anG:=alo hn0
    have anH:=hok.len
    refine Ops.sb (F':=[(b,wF lv (k1+1) s3)]++S) (.left (afy.app .refl) hS2.shut) ?_
    refine agb rfl rfl rfl<|pq<|W.seq ?_
    refine W.aiB (σ:=Nat×Nat×Int) (fun t=>t.1≤4∧t.2.1≤k1+3) (fun t=>[(11,I t.1),(8,I i),(7,v),(0,bI b),(1,.slice a ps.length cap),(2,I q)]) (fun t=>(b,wF lv t.2.1 t.2.2)::S) ?_ ?_
    ·refine W.seq<|W.region rfl<|qm rfl rfl rfl ?_
     refine cg (A:=[(b,wF lv (k1+1) s3)]) .head (fun h' hE hL=>VP _ h' nums lv b (k1+1) s3 30 (hl.ext hE) (by omega) (by omega)) (fun v' A' hv=>?_)
     obtain⟨rb,s4,rfl,af4⟩:=hv
     refine Ops.sb (F':=[(b,wF lv (k1+1+1) s4)]++S) (af4.app .refl) ?_
     refine pq ?_
     refine W.cond rfl (fun c37=>?_) (fun c37=>?_)
     ·refine W.region rfl<|qm rfl rfl rfl ?_
      refine cg (A:=[(b,wF lv (k1+1+1) s4)]) .head (fun h' hE hL=>UC _ h' nums lv b (k1+1+1) s4 4 (hl.ext hE) (by omega) (by omega)) (fun v' A' hv=>?_)
      obtain⟨r5,s5,rfl,hr5,afA⟩:=hv
      refine Ops.sb (F':=[(b,wF lv (k1+1+1+1) s5)]++S) (afA.app .refl) ?_
      obtain⟨n5,rfl⟩:∃n:Nat,r5=n:=⟨r5.toNat,by omega⟩
      refine agb rfl rfl rfl<|Ops.nil ?_
      exact⟨rfl,rfl,(n5,k1+1+1+1,s5),⟨by dsimp only;omega,by dsimp only;omega⟩,⟨rfl,rfl,rfl,rfl,rfl,rfl,trivial⟩,.refl⟩
     ·refine W.skip ?_
      exact⟨rfl,rfl,(n0,k1+1+1,s4),⟨by dsimp only;omega,by dsimp only;omega⟩,⟨rfl,rfl,rfl,rfl,rfl,rfl,trivial⟩,.refl⟩
    ·rintro⟨n,k2,s6⟩ ⟨hn4,hk2⟩
     dsimp only at*
     obtain⟨av,cv,rfl⟩:=hS.dA
     have hlen:(zs way).length≤41:=by rw[kT];omega
     refine W.seq<|W.region rfl<|qm rfl rfl rfl<|qm rfl rfl rfl ?_
     refine Ops.NK (cs:= #[I n]) (fun am4=>?_) rfl
     refine oe rfl wn rfl rfl (iW (row:=fH) (l':=[(n:Int)]) rfl rfl rfl hS (.tail (.tail .all)) (fun h2 _ hl=>Sl.mk (hl am4 _ (.head _)) rfl (Part.all [I n])) (by simp;omega) (by decide) rfl (fun v' S' hS'=>?_))
     have hS9:Os dL fH v' (zs (way++[n])) S':=by rw[X3];exact hS'
     have hy9:∀y∈way++[n],y≤4:=fun y hy=>by
      rcases List.mem_append.1 hy with h | h
      ·exact hy4 y h
      ·rw[List.mem_singleton.1 h];exact hn4
     refine agb rfl rfl rfl<|pq<|W.seq<|W.region rfl<|qm rfl rfl rfl<|qm rfl rfl rfl ?_
     refine agW (dM rfl rfl) rfl ?_
     refine agW (fO rfl rfl rfl) rfl ?_
     refine pq ?_
     refine W.bC rfl (fun c47=>?_) (fun c47=>?_)
     ·have hnl:n<ps.length:=by omega
      obtain⟨x,hx,-⟩:=has hnl
      have hxk:=hok.pan x (List.mem_of_getElem? hx)
      obtain⟨bb,off,c,E,fz,hv,hb,hxx,hyy,hz⟩:=hf.at hx
      cases hv
      have hx':c.extract (off+n*3) (off+n*3+3)= #[I x.lo,I x.hi,I x.sh]:=hxx
      clear hxx hz
      refine W.region rfl<|qm rfl rfl rfl<|qm rfl rfl rfl ?_
      refine ag3 rfl ?_
      refine ag2 rfl ?_
      refine qm rfl rfl rfl ?_
      refine cp (fun h' hE hL=>ab_ _ h' x q (by omega) (by omega)) ?_
      refine agb rfl rfl rfl<|Ops.nil<|dI<|aA<|W.region rfl<|qm rfl rfl rfl ?_
      refine ag5 rfl ?_
      refine agb rfl rfl rfl<|pq ?_
      exact⟨rfl,(i-1,way++[n],v',S',k2,s6,x.out q),⟨by simp;omega,hS9,hy9,by dsimp only;omega⟩,by dsimp only;omega,⟨lk rfl (show I _=I _ by congr 1;dsimp only;omega),rfl,rfl,rfl,rfl,trivial⟩,.skip rfl .refl⟩
     ·refine W.skip<|dI<|aA<|W.region rfl<|qm rfl rfl rfl ?_
      refine ag5 rfl ?_
      refine agb rfl rfl rfl<|pq ?_
      exact⟨rfl,(i-1,way++[n],v',S',k2,s6,q),⟨by simp;omega,hS9,hy9,by dsimp only;omega⟩,by dsimp only;omega,⟨lk rfl (show I _=I _ by congr 1;dsimp only;omega),rfl,rfl,rfl,rfl,trivial⟩,.skip rfl .refl⟩
 ·refine W.exit<|bP<|bP<|gG<|aA<|W.seq<|W.region rfl<|qm rfl rfl rfl<|agb rfl rfl rfl<|Ops.nil ?_
  refine aA<|W.ret ?_
  exact mg (vs:=[_]) ⟨way,S,k1,s2,hS,⟨by omega,hy4⟩,by omega,.refl⟩
end Go.aS

/- What is reached in so many steps, as the laws find it. Conditions: none; no program in sight. -/
namespace Go.aS
set_option linter.unusedVariables false
end Go.aS

/- Sets of qualities, as the laws keep them. Conditions: none; over the given program. -/
namespace Go.aS
set_option maxRecDepth 100000
set_option maxHeartbeats 4000000
abbrev V9(β:Nat):Value:=.slice (some ⟨β,0,none⟩) 13 13
abbrev bsO(f:Nat→Bool):Obj:=.cells (bA f) RS (0,0)
end Go.aS

/- SyrupLongest. Conditions: none; over the given program. -/
namespace Go.aS
set_option maxRecDepth 100000
set_option maxHeartbeats 4000000
end Go.aS

/- What goes round for ever comes to a ring. Conditions: none; no program in sight. -/
namespace Go.aS
set_option linter.unusedVariables false
end Go.aS

/- All ways of so many steps; the first of them. Conditions: none; no program in sight. -/
namespace Go.aS
set_option linter.unusedVariables false
end Go.aS

/- All lists of so many numbers, as a program makes them; all ascending ones. Conditions: none; no program in sight. -/
namespace Go.aS
set_option linter.unusedVariables false
end Go.aS

/- All lists of so many numbers. Conditions: none; over the given program. -/
namespace Go.aS
set_option maxRecDepth 100000
set_option maxHeartbeats 4000000
end Go.aS

/- Ways, as the laws make them. Conditions: none; over the given program. -/
namespace Go.aS
set_option maxRecDepth 100000
set_option maxHeartbeats 4000000
end Go.aS

/- Comparing truth values. Conditions: none; over any program. -/
namespace Go.aS
section
variable{x:Cx}{ρ:Env}{S:ah→Prop}{o:Oper}{v:Value}
end
end Go.aS

/- SyrupRing. Conditions: none; over the given program. -/
namespace Go.aS
set_option maxRecDepth 100000
set_option maxHeartbeats 4000000
end Go.aS

/- From where syrups go round for ever: the list. Conditions: none; over the given program. -/
namespace Go.aS
set_option maxRecDepth 100000
set_option maxHeartbeats 4000000
end Go.aS

/- The shortest way to treacle; what treacle comes of a syrup. Conditions: none; over the given program. -/
namespace Go.aS
set_option maxRecDepth 100000
set_option maxHeartbeats 4000000
end Go.aS

/- SyrupShortest. Conditions: none; over the given program. -/
namespace Go.aS
set_option maxRecDepth 100000
set_option maxHeartbeats 4000000
end Go.aS

/- Pans that are forced. Conditions: none; over the given program. -/
namespace Go.aS
set_option maxRecDepth 100000
set_option maxHeartbeats 4000000
end Go.aS

/- Pans that are shut; where one comes without them. Conditions: none; no program in sight. -/
namespace Go.aS
set_option linter.unusedVariables false
end Go.aS

/- Pans shut, as the document has it. Conditions: none; over the given program. -/
namespace Go.aS
set_option maxRecDepth 100000
set_option maxHeartbeats 4000000
end Go.aS

/- SyrupForced. Conditions: none; over the given program. -/
namespace Go.aS
set_option maxRecDepth 100000
set_option maxHeartbeats 4000000
end Go.aS

/- All ascending lists of so many numbers, as a program makes them. Conditions: none; no program in sight. -/
namespace Go.aS
set_option linter.unusedVariables false
set_option maxRecDepth 100000
end Go.aS

/- All ascending lists of so many numbers. Conditions: none; over the given program. -/
namespace Go.aS
set_option maxRecDepth 100000
set_option maxHeartbeats 4000000
theorem UG.os{α:Type}{row:α→List Value}{w:Nat}[Rw row w]{E:TypeId}{vs:List Sv}{ls:List (List α)}{A:ah}(h:UG E row vs ls A):∀{k:Nat} {s:Sv} {l:List α},vs[k]? =some s→ls[k]? =some l→∃B,Os E row s.val l B∧∀p∈B,p∈A:=by
 induction h with
 | nil=>intro k s l hs;simp at hs
 | cons h1 _ ih=>
  intro k s l hs hl
  rcases k with _ | k
  ·simp at hs hl;subst hs hl
   exact⟨_,h1,fun p hp=>List.mem_append_left _ hp⟩
  ·simp at hs hl
   obtain⟨B,h2,h3⟩:=ih hs hl
   exact⟨B,h2,fun p hp=>List.mem_append_right _ (h3 p hp)⟩
end Go.aS

/- SyrupClosed. Conditions: none; over the given program. -/
namespace Go.aS
set_option maxRecDepth 100000
set_option maxHeartbeats 4000000
end Go.aS

/- SyrupMore. Conditions: none; over the given program. -/
namespace Go.aS
set_option maxRecDepth 100000
set_option maxHeartbeats 4000000
end Go.aS

/- A way gone along: where it leads, what comes out, what stops it. Conditions: none; no program in sight. -/
namespace Go.aS
set_option linter.unusedVariables false
end Go.aS

/- SyrupBoiled. Conditions: none; over the given program. -/
namespace Go.aS
set_option maxRecDepth 100000
set_option maxHeartbeats 4000000
theorem Os.room{α:Type}{row:α→List Value}{w:Nat}[Rw row w]{E:TypeId}{a:Option Addr}{n cap:Nat}{l:List α}{A:ah}(H:Os E row (.slice a n cap) l A):(a.map (·.spot)=some none∨a=none)∧l.length≤cap:=by
 rcases H with⟨rfl,e,-⟩ | ⟨β,c,cap',J,e,-,-,h,-,-⟩
 ·cases e;exact⟨.inr rfl,Nat.le_refl _⟩
 ·cases e;exact⟨.inl rfl,h⟩
end Go.aS

/- SyrupBoils. Conditions: none; over the given program. -/
namespace Go.aS
set_option maxRecDepth 100000
set_option maxHeartbeats 4000000
theorem apF{ps:List Pn}{q:Int}:(zs (TkF ps q).1).length≤100000:=by rw[kT];have:=aln (ps:=ps) (q:=q);omega
theorem aph{ps:List Pn}:∀{w:List Int} {q i:Nat} {l:List Nat},EO ps q w i= .ok l→l.length=w.length
 | [],q,i,l,h=>by cases h;rfl
 | p::r,q,i,l,h=>by
  rw[EO]at h
  split at h
  ·cases h
  split at h
  ·cases h
  split at h
  ·rename_i l' hl'
   cases h
   simp[aph hl']
  ·cases h
theorem apG{ps:List Pn}{q:Int}{w:List Int}(hw:w.length≤50):(zs (Aq ps q w).1).length≤100000:=by
 rw[kT];unfold Aq
 split
 ·simp
 split
 ·simp
 split
 ·rename_i l h;simp only[aph h];omega
 ·simp
theorem apb(main:Side)(hS:∀S,main.ok S→∃Fin,S=Mo prog Fin)(hmb:main.b=true)(h:Hp)(ps:List Pn)(vp:Value)(p:Pn)(q:Int)(way:List Int)(vw:Value)(nums:List Int)(lv:Value)(Eg:TypeId)(zg:Nat×Nat)(hf:Sl h Pn.row vp ps)(hw:Sl h fH vw way)(hl:Sl h fH lv nums)(hg:h 0=some (.cells #[Ur qM] Eg zg))(z0:h.z 0):QE prog main anN #[vp,p.val,I q,vw,lv] h (.bool true):=by
 obtain⟨a,cap,rfl⟩:=hf.dA
 obtain⟨a2,cap2,rfl⟩:=hw.dA
 refine QE.aG aod rfl (by show 5≤160;decide) [(0,.slice a ps.length cap),(1,p.val),(2,I q),(3,.slice a2 way.length cap2),(4,lv)] ⟨rfl,rfl,rfl,rfl,rfl,trivial⟩ ?_
 refine W.seq<|W.region rfl ?_
 refine Ops.box (cs:= #[I p.lo,I p.hi,I p.sh]) (fun yC=>?_)
 refine agb rfl rfl rfl<|pq<|W.seq<|W.seq ?_
 refine W.aiB (σ:=Bool) (fun c=>c=true↔(20<ps.length∨50<way.length)) (fun c=>[(33,.bool c),(6,bI yC),(10,.bool false),(0,.slice a ps.length cap),(2,I q),(3,.slice a2 way.length cap2),(4,lv)]) (fun _=>[(yC,.cells #[I p.lo,I p.hi,I p.sh] Ag (0,0))]) ?_ ?_
 ·refine W.region rfl<|qm rfl rfl rfl ?_
  refine agW (dM rfl rfl) rfl ?_
  refine agW (rC rfl rfl rfl) rfl ?_
  refine qm rfl rfl rfl ?_
  refine Ops.ask (fun ae5=>?_) (fun ae5=>?_)
  ·refine Ops.no ?_
   refine Ops.no ?_
   refine Ops.no ?_
   refine agW (dG rfl rfl rfl) rfl ?_
   refine Ops.nil ?_
   refine⟨rfl,rfl,_,?_,⟨rfl,rfl,rfl,rfl,rfl,rfl,rfl,trivial⟩,.refl⟩
   first
    | exact⟨fun _=>.inl (by have:=of_decide_eq_true ae5;omega),fun _=>rfl⟩
    | exact⟨fun h=>.inr (by have:=of_decide_eq_true h;omega),fun h=>decide_eq_true (by have:=of_decide_eq_false ae5;omega)⟩
    | exact⟨fun _=>.inl (by omega),fun _=>rfl⟩
    | exact⟨fun h=>.inr (by have:=of_decide_eq_true h;omega),fun h=>decide_eq_true (by omega)⟩
  ·refine oq (aN rfl rfl) rfl (ak rfl rfl rfl) rfl rfl ?_
   refine oq (dM rfl rfl) rfl (ak rfl rfl rfl) rfl rfl ?_
   refine oq (rC rfl rfl rfl) rfl (ak rfl rfl rfl) rfl rfl ?_
   refine agW (iH rfl rfl rfl) rfl ?_
   refine Ops.nil ?_
   refine⟨rfl,rfl,_,?_,⟨rfl,rfl,rfl,rfl,rfl,rfl,rfl,trivial⟩,.refl⟩
   first
    | exact⟨fun _=>.inl (by have:=of_decide_eq_true ae5;omega),fun _=>rfl⟩
    | exact⟨fun h=>.inr (by have:=of_decide_eq_true h;omega),fun h=>decide_eq_true (by have:=of_decide_eq_false ae5;omega)⟩
    | exact⟨fun _=>.inl (by omega),fun _=>rfl⟩
    | exact⟨fun h=>.inr (by have:=of_decide_eq_true h;omega),fun h=>decide_eq_true (by omega)⟩
 ·intro C hC
  refine W.cond rfl (fun c33=>?_) (fun c33=>?_)
  ·refine W.seq<|W.region rfl ?_
   refine cp (fun h' hE hL=>VW _ h' hS hmb _ _ (hE.1 _ _ (by first | exact hgz | exact hg))) ?_
   refine agb rfl rfl rfl<|pq<|W.ret<|aY ?_
   exact lvq rfl
  ·have arF:ps.length≤20:=by
    refine Nat.le_of_not_lt fun h=>by have:=hC.2 (.inl h);rw[c33]at this;cases this
   have arG:way.length≤50:=by
    refine Nat.le_of_not_lt fun h=>by have:=hC.2 (.inr h);rw[c33]at this;cases this
   refine W.skip<|aA<|W.seq<|W.region rfl<|qm rfl rfl rfl ?_
   refine c0 (fun h' hE hL=>VQ _ h' nums lv (hl.ext hE)) (fun v A' hv=>?_)
   obtain⟨b,s0,rfl,rfl⟩:=hv
   refine agb rfl rfl rfl<|pq<|W.seq<|W.region rfl<|qm rfl rfl rfl ?_
   refine ag2 rfl ?_
   refine qm rfl rfl rfl ?_
   refine cg (A:=[(b,wF lv 0 s0)]) .head (fun h' hE hL=>apA _ h' nums lv b 0 s0 ps _ p (hl.ext hE) (by omega) (hf.ext hE)) (fun v A' hv=>?_)
   obtain⟨sv0,vs,ls,S,T,k1,s1,hs0,hT,hO,⟨hvl,hll⟩,hk1,hsb⟩:=hv
   obtain⟨at4,ct4,rfl⟩:=hT.dA
   refine Ops.sb (F':=T++(S++[(b,wF lv k1 s1)])) (Sb.trans (.dF (agQ fun y=>by simp only[List.count_append,List.count_cons,List.count_nil];omega)) (hsb.app (.nil (.cons rfl .nil)))) ?_
   refine agb rfl rfl rfl<|pq ?_
   refine JU hT (fun hz hEz ap0 _=>?_)
   refine agG hO (fun hz2 agM hall=>?_)
   replace ap0:=ap0.ext agM
   have hEh:=hEz.trans agM
   have hgz:=hEh.1 _ _ hg
   have hwz:=hw.ext hEh
   have hlz:=hl.ext hEh
   have h4:(sv0::vs).length=4:=by simp[hvl]
   have hcase:∀i,i<4→∃(sv:Sv) (l:List Pn),(sv0::vs)[i]? =some sv∧Sl hz2 Pn.row sv.val l∧l.length≤20:=by
    intro i hi
    rcases i with _ | i
    ·exact⟨sv0,ps,rfl,by rw[←hs0];exact hf.ext hEh,arF⟩
    ·obtain⟨sv,hsv,-⟩:=has (show i<vs.length by omega)
     obtain⟨l,hl',-⟩:=has (show i<ls.length by rw[←hO.len];omega)
     exact⟨sv,l,by simpa using hsv,(hall i sv l hsv hl').1,by have:=hll l (List.mem_of_getElem? hl');omega⟩
   rw[h4]at ap0⊢
   refine W.seq<|W.seq<|W.region rfl<|agb rfl rfl rfl<|pq<|W.block ?_
   refine W.loop (σ:=Nat×Nat×Int) (fun t=>t.1≤4∧t.2.1≤500+t.1*1000) (fun t=>[(13,I t.1),(12,.slice at4 4 ct4),(11,bI b),(2,I q),(3,.slice a2 way.length cap2)]) (fun t=>[(b,wF lv t.2.1 t.2.2)]) (fun t=>4-t.1) (0,k1,s1) ⟨Nat.zero_le _,by dsimp only;omega⟩ ⟨rfl,rfl,rfl,rfl,rfl,trivial⟩ .refl ?_
   clear hk1 hsb
   rintro⟨i,k1,s1⟩ ⟨hi,hk1⟩
   dsimp only at*
   refine W.seq<|W.seq<|W.region rfl<|qm rfl rfl rfl<|qm rfl rfl rfl ?_
   refine agW (dM rfl rfl) rfl ?_
   refine agW (fO rfl rfl rfl) rfl ?_
   refine pq ?_
   refine W.bC rfl (fun c44=>?_) (fun c44=>?_)
   ·have hi4:i<4:=by omega
    obtain⟨sv,l,hsv,apH,ar_⟩:=hcase i hi4
    obtain⟨bb,off,c,E,fz,hv,hb,-,-,hzz⟩:=ap0.at hsv
    cases hv
    have hx0:c[off+i*1]? =some (.slice sv.a sv.n sv.cap):=hzz 0 (by decide)
    refine W.skip<|aA<|W.seq<|W.block<|W.seq<|W.region rfl<|qm rfl rfl rfl<|qm rfl rfl rfl ?_
    refine ag3 rfl ?_
    refine agX rfl ?_
    refine c0 (fun h' hE hL=>aij _ h' l _ (apH.ext hE) (by omega)) (fun v A' hv=>?_)
    obtain⟨Sw,hOw,arI⟩:=hv
    refine Ops.sb (F':=Sw++[(b,wF lv k1 s1)]) (arI.app .refl) ?_
    obtain⟨aw,cw,rfl⟩:=hOw.dA
    refine agb rfl rfl rfl<|pq<|W.seq<|W.region rfl<|qm rfl rfl rfl<|qm rfl rfl rfl ?_
    refine cg (A:=[(b,wF lv k1 s1)]) (.app .all) (fun h' hE hL=>UC _ h' nums lv b k1 s1 12 (hlz.ext hE) (by omega) (by omega)) (fun v A' hv=>?_)
    obtain⟨r,s2,rfl,hr,Oh⟩:=hv
    refine Ops.sb (F':=Sw++[(b,wF lv (k1+1) s2)]) (.app .refl Oh) ?_
    refine Ops.NK (cs:= #[I q,I r]) (fun ao3=>?_) rfl
    refine agb rfl rfl rfl<|pq<|W.seq<|W.region rfl<|agb rfl rfl rfl<|pq<|W.block ?_
    refine W.loop (σ:=Nat×Nat×Int) (fun t=>t.1≤2∧t.2.1≤k1+1+t.1*300) (fun t=>[(16,I t.1),(15,.slice (some ⟨ao3,0,none⟩) 2 2),(14,.slice aw l.length cw),(13,I i),(12,.slice (some ⟨bb,off,none⟩) 4 ct4),(11,bI b),(2,I q),(3,.slice a2 way.length cap2)]) (fun t=>(ao3,.cells #[I q,I r] dL (0,0))::(Sw++[(b,wF lv t.2.1 t.2.2)])) (fun t=>2-t.1) (0,k1+1,s2) ⟨Nat.zero_le _,by dsimp only;omega⟩ ⟨rfl,rfl,rfl,rfl,rfl,rfl,rfl,rfl,trivial⟩ .refl ?_
    clear Oh
    rintro⟨j,k2,s3⟩ ⟨hj,hk2⟩
    dsimp only at*
    refine W.seq<|W.seq<|W.region rfl<|qm rfl rfl rfl<|qm rfl rfl rfl ?_
    refine agW (dM rfl rfl) rfl ?_
    refine agW (fO rfl rfl rfl) rfl ?_
    refine pq ?_
    refine W.bC rfl (fun c59=>?_) (fun c59=>?_)
    ·have hj2:j<2:=by omega
     obtain⟨qj,hqj⟩:∃qj:Int,(#[I q,I r]:Array Value)[0+j*1]? =some (I qj):=by
      rcases j with _ | _ | j
      ·exact⟨q,rfl⟩
      ·exact⟨r,rfl⟩
      ·omega
     refine W.skip<|aA<|W.seq<|W.block<|W.seq<|W.region rfl<|qm rfl rfl rfl ?_
     refine c0 (fun h' hE hL=>af0 _ h' way _ (hwz.ext hE) (by omega)) (fun v A' hv=>?_)
     obtain⟨S1,hO1,Ym⟩:=hv
     refine Ops.sb (F':=(ao3,.cells #[I q,I r] dL (0,0))::(S1++(Sw++[(b,wF lv k2 s3)]))) (Sb.trans (.dF (agQ fun y=>by simp only[List.count_append,List.count_cons,List.count_nil];omega)) (Ym.app .refl)) ?_
     refine agb rfl rfl rfl<|pq<|W.seq ?_
     refine W.aiB (σ:=List Int×Value×ah×Nat×Int) (fun t=>Os dL fH t.2.1 t.1 t.2.2.1∧t.1.length≤50∧t.2.2.2.1≤k2+300) (fun t=>[(17,t.2.1),(16,I j),(15,.slice (some ⟨ao3,0,none⟩) 2 2),(14,.slice aw l.length cw),(13,I i),(12,.slice (some ⟨bb,off,none⟩) 4 ct4),(11,bI b),(2,I q),(3,.slice a2 way.length cap2)]) (fun t=>(ao3,.cells #[I q,I r] dL (0,0))::(t.2.2.1++(Sw++[(b,wF lv t.2.2.2.1 t.2.2.2.2)]))) ?_ ?_
     ·refine W.seq<|W.region rfl<|qm rfl rfl rfl ?_
      refine agW (rC rfl rfl rfl) rfl ?_
      refine pq ?_
      refine W.bC rfl (fun c65=>?_) (fun c65=>?_)
      ·refine W.DR [(ao3,.cells #[I q,I r] dL (0,0))] (n:=11) rfl ?_
       refine xq 0 (aN rfl rfl) rfl ?_
       refine xq 1 (aN rfl rfl) rfl ?_
       refine xq 2 (aN rfl rfl) rfl ?_
       first | refine xq 3 (G_ rfl rfl rfl) rfl ?_ | refine xq 3 (o_ rfl rfl rfl) rfl ?_
       refine xq 4 (iQ rfl rfl) rfl ?_
       refine xq 5 (aN rfl rfl) rfl ?_
       refine xq 6 (aN rfl rfl) rfl ?_
       first | refine xq 7 (G_ rfl rfl rfl) rfl ?_ | refine xq 7 (o_ rfl rfl rfl) rfl ?_
       refine xq 8 (iQ rfl rfl) rfl ?_
       refine ae (i:=9) rfl an rfl rfl (QZ (args:=[_,_,_]) (A:=[(b,wF lv k2 s3)]) rfl rfl (.tail (.app (.app .all))) (fun h' hE hL=>alf _ h' nums lv b k2 s3 l _ qj (hlz.ext hE) (by omega) (apH.ext hE) (by omega)) (fun v A' hv=>?_))
       obtain⟨w2,S2,k3,s4,hO2,⟨anI,hw4⟩,hk3,afy⟩:=hv
       refine⟨.inr (.one (.head _) .nil),Any.sb (F':=(ao3,.cells #[I q,I r] dL (0,0))::(S2++(Sw++[(b,wF lv k3 s4)]))) (.cons (.left (Sb.trans (.dF (agQ fun y=>by simp only[List.count_append,List.count_cons,List.count_nil];omega)) (Sb.app .refl afy)) hO1.shut)) ?_⟩
       refine xq 10 (jS rfl rfl) rfl ?_
       refine az ?_
       exact⟨rfl,rfl,(zs w2,_,S2,k3,s4),⟨hO2,by rw[kT];omega,hk3⟩,⟨rfl,rfl,rfl,rfl,rfl,rfl,rfl,rfl,rfl,trivial⟩,.refl⟩
      ·refine W.skip ?_
       exact⟨rfl,rfl,(way,_,S1,k2,s3),⟨hO1,arG,by dsimp only;omega⟩,⟨rfl,rfl,rfl,rfl,rfl,rfl,rfl,rfl,rfl,trivial⟩,.refl⟩
     ·clear Ym hO1
      rintro⟨w,wv,S1,k3,s4⟩ ⟨hO1,hwl,hk3⟩
      dsimp only at*
      refine W.seq<|W.region rfl<|qm rfl rfl rfl<|qm rfl rfl rfl<|qm rfl rfl rfl ?_
      refine ag3 rfl ?_
      refine agX rfl ?_
      refine c0 (fun h' hE hL=>ala _ h' l _ qj (hOw.sl fun b' o hb=>hL b' o (by simp[hb]))) (fun v A' hv=>?_)
      obtain⟨t1,St1,rfl,aqK,aqL⟩:=hv
      refine Ops.sb (F':=(ao3,.cells #[I q,I r] dL (0,0))::(St1++(S1++(Sw++[(b,wF lv k3 s4)])))) (Sb.trans (.dF (agQ fun y=>by simp only[List.count_append,List.count_cons,List.count_nil];omega)) (aqL.app .refl)) ?_
      refine qm rfl rfl rfl<|oq (bD rfl rfl rfl) rfl wn rfl rfl<|oq (bD rfl rfl rfl) rfl wn rfl rfl<|agb rfl rfl rfl<|agb rfl rfl rfl<|pq<|W.seq ?_
      refine W.DR [(ao3,.cells #[I q,I r] dL (0,0))] (n:=14) rfl ?_
      refine xq 0 (aN rfl rfl) rfl ?_
      refine xq 1 (aN rfl rfl) rfl ?_
      first | refine xq 2 (G_ rfl rfl rfl) rfl ?_ | refine xq 2 (o_ rfl rfl rfl) rfl ?_
      refine xq 3 (iQ rfl rfl) rfl ?_
      refine xq 4 (aN rfl rfl) rfl ?_
      refine xq 5 (aN rfl rfl) rfl ?_
      first | refine xq 6 (G_ rfl rfl rfl) rfl ?_ | refine xq 6 (o_ rfl rfl rfl) rfl ?_
      refine xq 7 (iQ rfl rfl) rfl ?_
      refine ae (i:=8) rfl an rfl rfl (QZ (args:=[_,_]) (A:=[]) rfl rfl (Seg.head (A:=[])) (fun h' hE hL=>ak_ _ h' l _ qj (apH.ext hE)) (fun v A' hv=>?_))
      obtain⟨t2,St2,rfl,aqM,aqN⟩:=hv
      refine⟨.inr (.one (List.mem_append_right _ (.head _)) .nil),Any.sb (F':=(ao3,.cells #[I q,I r] dL (0,0))::(St2++(St1++(S1++(Sw++[(b,wF lv k3 s4)]))))) (Sb.trans (.dF (agQ fun y=>by simp only[List.count_append,List.count_cons,List.count_nil];omega)) (aqN.app .refl)) ?_⟩
      refine xq 9 (aN rfl rfl) rfl ?_
      refine xq 10 (bD rfl rfl rfl) rfl ?_
      refine xq 11 (bD rfl rfl rfl) rfl ?_
      refine xq 12 (jS rfl rfl) rfl ?_
      refine xq 13 (jS rfl rfl) rfl ?_
      refine az ?_
      refine aA<|W.seq<|W.region rfl<|qm rfl rfl rfl<|qm rfl rfl rfl<|qm rfl rfl rfl ?_
      refine ag3 rfl ?_
      refine agX rfl ?_
      refine qm rfl rfl rfl ?_
      refine c0 (fun h' hE hL=>aah _ h' l _ qj w _ Eg zg (hOw.sl fun b' o hb=>hL b' o (by simp[hb])) (hO1.sl fun b' o hb=>hL b' o (by simp[hb])) (hE.1 _ _ hgz)) (fun v A' hv=>?_)
      obtain⟨t3,St3,rfl,aqO,aqP⟩:=hv
      refine Ops.sb (F':=(ao3,.cells #[I q,I r] dL (0,0))::(St3++(St2++(St1++(S1++(Sw++[(b,wF lv k3 s4)])))))) (Sb.trans (.dF (agQ fun y=>by simp only[List.count_append,List.count_cons,List.count_nil];omega)) (aqP.app .refl)) ?_
      refine qm rfl rfl rfl<|oq (bD rfl rfl rfl) rfl wn rfl rfl<|oq (bD rfl rfl rfl) rfl wn rfl rfl<|agb rfl rfl rfl<|agb rfl rfl rfl<|pq<|W.seq ?_
      refine W.DR [(ao3,.cells #[I q,I r] dL (0,0))] (n:=15) rfl ?_
      refine xq 0 (aN rfl rfl) rfl ?_
      refine xq 1 (aN rfl rfl) rfl ?_
      first | refine xq 2 (G_ rfl rfl rfl) rfl ?_ | refine xq 2 (o_ rfl rfl rfl) rfl ?_
      refine xq 3 (iQ rfl rfl) rfl ?_
      refine xq 4 (aN rfl rfl) rfl ?_
      refine xq 5 (aN rfl rfl) rfl ?_
      first | refine xq 6 (G_ rfl rfl rfl) rfl ?_ | refine xq 6 (o_ rfl rfl rfl) rfl ?_
      refine xq 7 (iQ rfl rfl) rfl ?_
      refine xq 8 (aN rfl rfl) rfl ?_
      refine ae (i:=9) rfl an rfl rfl (QZ (args:=[_,_,_]) (A:=[]) rfl rfl (Seg.head (A:=[])) (fun h' hE hL=>apJ _ h' l _ qj w _ (apH.ext hE) (hO1.sl fun b' o hb=>hL b' o (by simp[hb]))) (fun v A' hv=>?_))
      obtain⟨t4,St4,rfl,aqQ,aqR⟩:=hv
      refine⟨.inr (.one (List.mem_append_right _ (.head _)) .nil),Any.sb (F':=(ao3,.cells #[I q,I r] dL (0,0))::(St4++(St3++(St2++(St1++(S1++(Sw++[(b,wF lv k3 s4)]))))))) (Sb.trans (.dF (agQ fun y=>by simp only[List.count_append,List.count_cons,List.count_nil];omega)) (aqR.app .refl)) ?_⟩
      refine xq 10 (aN rfl rfl) rfl ?_
      refine xq 11 (bD rfl rfl rfl) rfl ?_
      refine xq 12 (bD rfl rfl rfl) rfl ?_
      refine xq 13 (jS rfl rfl) rfl ?_
      refine xq 14 (jS rfl rfl) rfl ?_
      refine az ?_
      refine aA<|W.seq ?_
      refine W.DR [(ao3,.cells #[I q,I r] dL (0,0))] (n:=39) rfl ?_
      refine xq 0 (aN rfl rfl) rfl ?_
      refine xq 2 (aN rfl rfl) rfl ?_
      refine xq 3 (aN rfl rfl) rfl ?_
      first | refine xq 4 (G_ rfl rfl rfl) rfl ?_ | refine xq 4 (o_ rfl rfl rfl) rfl ?_
      refine xq 5 (iQ rfl rfl) rfl ?_
      refine Va (i:=1) (fun h' hE hL=>Vm _ h' l _ (hOw.sl fun b' o hb=>hL b' o (by simp[hb]))) ?_ (hS:=.inr (.one (.head _) .nil))
      refine Va (i:=6) (fun h' hE hL=>ak9 _ h' l _ (apH.ext hE)) ?_ (hS:=.inr (.one (.head _) .nil))
      refine aqe (i:=7) (nG rfl rfl rfl) (congrArg Value.bool (show decide ((nV l:Int)≠nV l)=false by simp)) rfl an rfl rfl ?_
      refine xq 8 (aN rfl rfl) rfl ?_
      refine aq (i:=9) (aN rfl rfl) rfl (b_ rfl rfl rfl rfl) rfl rfl ?_
      refine aq (i:=10) (aN rfl rfl) rfl (b_ rfl rfl rfl rfl) rfl rfl ?_
      refine aqe (i:=11) (nG rfl rfl rfl) (congrArg Value.bool (show decide (((TkF l qj).2:Int)≠(TkF l qj).2)=false by simp)) rfl (b_ rfl rfl rfl rfl) rfl rfl ?_
      refine xq 12 (iH rfl rfl rfl) rfl ?_
      refine xq 13 (aN rfl rfl) rfl ?_
      refine aq (i:=14) (aN rfl rfl) rfl (b_ rfl rfl rfl rfl) rfl rfl ?_
      refine aq (i:=15) (aN rfl rfl) rfl (b_ rfl rfl rfl rfl) rfl rfl ?_
      refine aqe (i:=16) (nG rfl rfl rfl) (congrArg Value.bool (show decide (((Aq l qj w).2:Int)≠(Aq l qj w).2)=false by simp)) rfl (b_ rfl rfl rfl rfl) rfl rfl ?_
      refine xq 17 (iH rfl rfl rfl) rfl ?_
      refine xq 18 (aN rfl rfl) rfl ?_
      refine aq (i:=19) (aN rfl rfl) rfl (b_ rfl rfl rfl rfl) rfl rfl ?_
      refine aq (i:=20) (aN rfl rfl) rfl (b_ rfl rfl rfl rfl) rfl rfl ?_
      refine Va (i:=21) (fun h' hE hL=>VU _ h' (zs (TkF l qj).1) (zs (TkF l qj).1) _ _ (aqK.sl fun b' o hb=>hL b' o (by simp[hb])) (aqM.sl fun b' o hb=>hL b' o (by simp[hb])) apF) ?_ (hS:=.inr (.one (.head _) .nil))
      refine aqe (i:=22) (xU rfl rfl) (congrArg Value.bool (show(!decide ((zs (TkF l qj).1)=(zs (TkF l qj).1)))=false by simp)) rfl (b_ rfl rfl rfl rfl) rfl rfl ?_
      refine xq 23 (iH rfl rfl rfl) rfl ?_
      refine xq 24 (aN rfl rfl) rfl ?_
      refine aq (i:=25) (aN rfl rfl) rfl (b_ rfl rfl rfl rfl) rfl rfl ?_
      refine aq (i:=26) (aN rfl rfl) rfl (b_ rfl rfl rfl rfl) rfl rfl ?_
      refine Va (i:=27) (fun h' hE hL=>VU _ h' (zs (Aq l qj w).1) (zs (Aq l qj w).1) _ _ (aqO.sl fun b' o hb=>hL b' o (by simp[hb])) (aqQ.sl fun b' o hb=>hL b' o (by simp[hb])) (apG hwl)) ?_ (hS:=.inr (.one (.head _) .nil))
      refine aqe (i:=28) (xU rfl rfl) (congrArg Value.bool (show(!decide ((zs (Aq l qj w).1)=(zs (Aq l qj w).1)))=false by simp)) rfl (b_ rfl rfl rfl rfl) rfl rfl ?_
      refine xq 29 (iH rfl rfl rfl) rfl ?_
      refine xq 30 (aN rfl rfl) rfl ?_
      refine aq (i:=31) (aN rfl rfl) rfl (b_ rfl rfl rfl rfl) rfl rfl ?_
      refine aq (i:=32) (aN rfl rfl) rfl (b_ rfl rfl rfl rfl) rfl rfl ?_
      refine aq (i:=33) (aN rfl rfl) rfl (b_ rfl rfl rfl rfl) rfl rfl ?_
      first | refine aq (i:=34) (G_ rfl rfl rfl) rfl (b_ rfl rfl rfl rfl) rfl rfl ?_ | refine aq (i:=34) (o_ rfl rfl rfl) rfl (b_ rfl rfl rfl rfl) rfl rfl ?_
      refine aq (i:=35) (iQ rfl rfl) rfl (b_ rfl rfl rfl rfl) rfl rfl ?_
      refine Va (i:=36) (fun h' hE hL=>apE _ h' l l _ _ (hOw.sl fun b' o hb=>hL b' o (by simp[hb])) (apH.ext hE) (by omega)) ?_ (hS:=.inr (.one (.head _) .nil))
      refine aqe (i:=37) (xU rfl rfl) (congrArg Value.bool (show(!decide (l=l))=false by simp)) rfl (b_ rfl rfl rfl rfl) rfl rfl ?_
      refine xq 38 (iH rfl rfl rfl) rfl ?_
      refine az ?_
      refine aA ?_
      refine W.bZ ?_
      refine W.skip<|dI<|aA<|W.region rfl<|qm rfl rfl rfl ?_
      refine ag1 rfl ?_
      refine agb rfl rfl rfl<|pq ?_
      exact⟨rfl,(j+1,k3,s4),⟨by omega,by dsimp only;omega⟩,by dsimp only;omega,⟨rfl,rfl,rfl,rfl,rfl,rfl,rfl,rfl,trivial⟩,.cons (.left (.left (.left (.left (.left .refl hO1.shut) aqK.shut) aqM.shut) aqO.shut) aqQ.shut)⟩
    ·refine W.exit<|bP<|bP<|gG<|dI<|aA<|W.region rfl<|qm rfl rfl rfl ?_
     refine ag1 rfl ?_
     refine agb rfl rfl rfl<|pq ?_
     exact⟨rfl,(i+1,k2,s3),⟨by omega,by dsimp only;omega⟩,by dsimp only;omega,⟨rfl,rfl,rfl,rfl,rfl,trivial⟩,.skip rfl (.left .refl hOw.shut)⟩
   ·refine W.exit<|bP<|bP<|gG<|aA<|W.seq<|W.region rfl ?_
    refine cp (fun h' hE hL=>VW _ h' hS hmb _ _ (hE.1 _ _ (by first | exact hgz | exact hg))) ?_
    refine agb rfl rfl rfl<|pq<|W.ret ?_
    exact lvq rfl
end Go.aS

/- Slices of structs of numbers, as they are handed in. Conditions: none; over any program. -/
namespace Go.aS
def aoW(P:Program)(t:TypeId)(w:Nat):Prop:=P.cellsOf t=w∧∀{H:Type} {enc:TypeId×Value→H} {W:World} {base:Nat} {spare:Nat→Bool} {held:Bool} {fuel:Nat} {cs:List Value} {x:DataW H×List MemPlace},DataW.trod enc P W base spare held fuel t cs=some x→∃ns:List Int,cs=ns.map nI∧ns.length=w
theorem aoW.int{P:Program}{t:TypeId}(ht:P.underlying t=some (.int .i64))(hc:P.cellsOf t=1):aoW P t 1:=⟨hc,fun h=>by
 obtain⟨n,rfl,-,-⟩:=DataW.trod_int ht h
 exact⟨[n],rfl,rfl⟩⟩
def aqg(P:Program):List Field→List Nat→Nat→Prop
 | [],[],_=>True
 | f::fs,w::ws,o=>f.offset=o∧aoW P f.type w∧aqg P fs ws (o+w)
 | _,_,_=>False
theorem apx{P:Program}{H:Type}{enc:TypeId×Value→H}{W:World}{base:Nat}{spare:Nat→Bool}{held:Bool}{n:Nat}{cs:List Value}:∀(fs:List Field) (ws:List Nat) (o:Nat),aqg P fs ws o→(∀f∈fs,∃x,DataW.trod enc P W base spare held n f.type ((cs.drop f.offset).take (P.cellsOf f.type))=some x)→o+ws.sum=cs.length→∃ns:List Int,cs.drop o=ns.map nI∧ns.length=ws.sum
 | [],[],o,_,_,hl=>⟨[],by simp at hl;simp;omega,rfl⟩
 | f::fs,w::ws,o,⟨ho,⟨hc,hr⟩,hrest⟩,hx,hl=>by
  obtain⟨x,h1⟩:=hx f (List.mem_cons_self ..)
  obtain⟨ns,h2,h3⟩:=hr h1
  rw[List.sum_cons]at hl
  obtain⟨ms,h4,h5⟩:=apx fs ws (o+w) hrest (fun g hg=>hx g (List.mem_cons_of_mem _ hg)) (by omega)
  subst ho
  rw[hc]at h2
  refine⟨ns++ms,?_,by rw[List.length_append,h3,h5,List.sum_cons]⟩
  rw[List.map_append,←h2,←h4,←List.drop_drop,List.take_append_drop]
 | [],_::_,_,h,_,_=>h.elim
 | _::_,[],_,h,_,_=>h.elim
theorem aoW.struct{P:Program}{t:TypeId}{fs:Array Field}{ws:List Nat}(ht:P.underlying t=some (.struct fs))(hl:aqg P fs.toList ws 0)(hc:P.cellsOf t=ws.sum):aoW P t ws.sum:=⟨hc,fun{H enc W base spare held fuel cs x} h=>by
 obtain⟨xs,n,-,-,h1,h2,h3⟩:=DataW.trod_struct ht h
 have:=apx (cs:=cs) fs.toList ws 0 hl (fun f hf=>by
  obtain⟨i,hi⟩:=List.mem_iff_getElem?.1 hf
  have hi':fs[i]? =some f:=by simpa using hi
  have hlt:i<xs.length:=by
   rw[h2]
   rcases Nat.lt_or_ge i fs.size with h | h
   ·exact h
   ·rw[Array.getElem?_eq_none h]at hi';cases hi'
  exact⟨xs[i],by rw[h3 i f hi',List.getElem?_eq_getElem hlt]⟩) (by omega)
 simpa using this⟩
theorem aoW.val{P:Program}{t w:Nat}(R:aoW P t w){H:Type}{enc:TypeId×Value→H}{W:World}{base:Nat}{spare:Nat→Bool}{held:Bool}{v:Value}{d:DataW H}{ps:List MemPlace}(h:DataW.Trod enc P W base spare held t v d ps):∃ns:List Int,v.cells.toList=ns.map nI∧ns.length=w:=by
 obtain⟨fuel,h⟩:=h
 exact R.2 h

theorem apB{W:World}{base n:Nat}{a:Addr}{cs:List Value}(h:W.cells? base a n=some cs):cs.length=n∧∀i,i<n→W.cell? (a.add i)=cs[i]? :=by
 unfold World.cells? at h
 split at h
 ·have h1:=mapM_some_length h
  rw[List.length_range]at h1
  exact⟨h1,fun i hi=>mapM_some_get h i i (by simp[hi])⟩
 ·cases h
theorem aoW.slice{P:Program}{e t w:Nat}(R:aoW P e w)(hw:0<w){α:Type}{row:α→List Value}[Rw row w](mk:∀ns:List Int,ns.length=w→∃p:α,row p=ns.map nI)(ht:P.underlying t=some (.slice e)){H:Type}{enc:TypeId×Value→H}{W:World}{base:Nat}{spare:Nat→Bool}{held:Bool}{v:Value}{fuel:Nat}{x:DataW H×List MemPlace}(hf:DataW.trod enc P W base spare held fuel t [v]=some x):∃l:List α,Sl (atStart W) row v l:=by
 rcases DataW.trod_slice ht hf with⟨hcs,-⟩ | ⟨a,len,cap,elems,rest,n,-,hcs,-,hb,hle,hm,hlen,hel,-,-⟩
 ·obtain rfl:v= .slice none 0 0:=by simpa using hcs
  exact⟨[],.nil⟩
 ·obtain rfl:v= .slice (some a) len cap:=by simpa using hcs
  rw[R.1]at hel
  have each:∀i,i<len→∃p:α,∀j,j<w→W.cell? ((a.add (i*w)).add j)=(row p)[j]? :=fun i hi=>by
   have h1:=hel i hi
   rw[List.getElem?_eq_getElem (by omega),Option.bind_eq_some_iff]at h1
   obtain⟨cs,h2,h3⟩:=h1
   obtain⟨ns,rfl,h4⟩:=R.2 h3
   obtain⟨p,hp⟩:=mk ns h4
   refine⟨p,fun j hj=>?_⟩
   rw[(apB h2).2 j hj,hp]
  have all:∀m,m≤len→∃l:List α,l.length=m∧∀i p,l[i]? =some p→∀j,j<w→W.cell? ((a.add (i*w)).add j)=(row p)[j]? :=by
   intro m
   induction m with
   | zero=>intro _;exact⟨[],rfl,fun i p hp=>by simp at hp⟩
   | succ m ih=>
    intro hm
    obtain⟨l,h1,h2⟩:=ih (by omega)
    obtain⟨p,hp⟩:=each m (by omega)
    refine⟨l++[p],by simp[h1],fun i q hq=>?_⟩
    rcases Nat.lt_or_ge i l.length with h | h
    ·rw[List.getElem?_append_left h]at hq;exact h2 i q hq
    ·have hlt:=lt_of_some hq
     simp at hlt
     have:i=m:=by omega
     subst this
     rw[List.getElem?_append_right h,show i-l.length=0 by omega]at hq
     simp at hq
     subst hq
     exact hp
  obtain⟨l,hl,hc⟩:=all len (Nat.le_refl _)
  refine⟨l,some a,cap,by rw[hl],fun hne=>?_⟩
  have hpos:0<len:=by
   rcases Nat.eq_zero_or_pos len with h | h
   ·subst h;exact absurd (List.eq_nil_of_length_eq_zero hl) hne
   ·exact h
  obtain⟨b,off,spot⟩:=a
  have hsp:spot=none:=by
   obtain⟨p,hp,-⟩:=has (show 0<l.length by omega)
   have h0:=hc 0 p hp 0 hw
   have hrw:(row p).length=w:=Rw.len p
   rw[List.getElem?_eq_getElem (by omega)]at h0
   cases hs:spot with
   | none=>rfl
   | some s=>
    subst hs
    exfalso
    simp only[Nat.zero_mul,World.cell?,Addr.add,if_true]at h0
    split at h0
    ·simp at h0
    ·cases h0
  subst hsp
  have cell:∀k,k<(flat row l).length→∃c E fz,W.heap[b]? =some (.cells c E fz)∧c[off+k]? =(flat row l)[k]? :=fun k hk=>by
   rw[jT]at hk
   have hi:k / w<l.length:=Nat.div_lt_of_lt_mul (by rw[Nat.mul_comm];exact hk)
   have hj:k % w<w:=Nat.mod_lt _ hw
   obtain⟨p,hp,-⟩:=has hi
   have h1:=hc _ p hp _ hj
   have hrw:(row p).length=w:=Rw.len p
   have e1:k / w*w+k % w=k:=Nat.div_add_mod' k w
   have h2:(flat row l)[k]? =(row p)[k % w]? :=by
    have hP:Part (flat row l).toArray 0 (flat row l):=Part.all _
    have h3:=hP.Bo hp (k % w) hj
    rw[Nat.zero_add,e1]at h3
    simpa using h3
   have ea:((⟨b,off,none⟩:Addr).add (k / w*w)).add (k % w)=⟨b,off+k,none⟩:=by
    have e2:(⟨b,off,none⟩:Addr).add (k / w*w)=⟨b,off+k / w*w,none⟩:=jE rfl _
    rw[e2,jE rfl]
    simp only[Addr.mk.injEq,true_and,and_true]
    omega
   rw[ea]at h1
   rw[h2]
   rw[List.getElem?_eq_getElem (show k % w<(row p).length by omega)]at h1⊢
   simp only[World.cell?]at h1
   split at h1
   ·rename_i c E fz hb
    exact⟨c,E,fz,hb,by simpa using h1⟩
   ·cases h1
  have hfl:=jT (row:=row) l
  have apK:0<(flat row l).length:=by rw[hfl];exact Nat.mul_pos (by omega) hw
  obtain⟨c,E,fz,hb',h0⟩:=cell 0 apK
  refine⟨b,off,c,E,fz,rfl,ku.2 ⟨hb',rfl⟩,Part.ace (fun j hj=>?_) (fun e=>by rw[e]at apK;simp at apK)⟩
  obtain⟨c',E',fz',hb2,hj'⟩:=cell j hj
  rw[hb']at hb2
  cases hb2
  exact hj'
end Go.aS

/- From a law of pans, lots and numbers that answers true to its card, time passing meanwhile. Conditions: as the cards say; over the given program. -/
namespace Go.aS
open Go.Proofs.YtkkdgffaohidnaaGreatDoor
set_option maxRecDepth 100000
set_option maxHeartbeats 4000000
section
open Go.ChangeShapes Go.WideShapes Go.RowKit
theorem aoX:aoW prog dL 1:=aoW.int VX VY
theorem apL:aoW prog Ag 3:=aoW.struct (ws:=[1,1,1]) (TD.out (t:=Ag)) ⟨rfl,aoX,rfl,aoX,rfl,aoX,trivial⟩ (by kernel_rfl)
theorem aqh:aoW prog XI 2:=aoW.struct (ws:=[1,1]) (TD.out (t:=XI)) ⟨rfl,aoX,rfl,aoX,trivial⟩ (by kernel_rfl)
theorem aqS:∀ns:List Int,ns.length=3→∃p:Pn,p.row=ns.map nI
 | [a,b,c],_=>⟨⟨a,b,c⟩,rfl⟩
theorem mkLt:∀ns:List Int,ns.length=2→∃p:Lt,p.row=ns.map nI
 | [a,b],_=>⟨⟨a,b⟩,rfl⟩
theorem mkI:∀ns:List Int,ns.length=1→∃p:Int,fH p=ns.map nI
 | [a],_=>⟨a,rfl⟩

structure ap8(h:Hp)(t:TypeId)(v:Value):Prop where
 arK:t=aoG→∃l,Sl h Pn.row v l
 pan:t=Ag→∃p:Pn,v=p.val
 lots:t=apa→∃l,Sl h Lt.row v l
 int:t=dL→∃n,v=I n
 ints:t=nS→∃l,Sl h fH v l
def apv(h:Hp):List TypeId→List Value→Prop
 | [],[]=>True
 | t::ts,v::vs=>ap8 h t v∧apv h ts vs
 | _,_=>False
theorem aqi{H:Type}{enc:TypeId×Value→H}{W:World}{n:Nat}{t:TypeId}{v:Value}{d:DataW H}{ps:List MemPlace}(hv:Value.okWide prog W .any n t v)(h:DataW.Trod enc prog W 0 (fun _=>true) true t v d ps):ap8 (atStart W) t v:=by
 refine⟨?_,?_,?_,?_,?_⟩
 ·rintro rfl
  obtain⟨a,len,cap,rfl⟩:=okWide_slice (TD.out (t:=aoG)) hv
  obtain⟨fuel,h⟩:=h
  exact apL.slice (row:=Pn.row) (by decide) aqS (TD.out (t:=aoG)) h
 ·rintro rfl
  obtain⟨cs,rfl,hc⟩:=okWide_struct (TD.out (t:=Ag)) hv
  obtain⟨ns,h1,h2⟩:=apL.val h
  obtain⟨p,hp⟩:=aqS ns h2
  refine⟨p,?_⟩
  have:cs.toList=p.row:=by rw[hp];exact h1
  rw[show cs=p.row.toArray by rw[←this]]
  rfl
 ·rintro rfl
  obtain⟨a,len,cap,rfl⟩:=okWide_slice (TD.out (t:=apa)) hv
  obtain⟨fuel,h⟩:=h
  exact aqh.slice (row:=Lt.row) (by decide) mkLt (TD.out (t:=apa)) h
 ·rintro rfl
  obtain⟨ns,h1,h2⟩:=aoX.val h
  obtain⟨n,rfl⟩:=okWide_int VX hv
  exact⟨n,rfl⟩
 ·rintro rfl
  obtain⟨a,len,cap,rfl⟩:=okWide_slice EX hv
  obtain⟨fuel,h⟩:=h
  exact aoX.slice (row:=fH) (by decide) mkI EX h
theorem apC{H:Type}{enc:TypeId×Value→H}{W:World}{n:Nat}:∀{ts:List TypeId} {vs:List Value} {ds:List (DataW H)} {ps:List MemPlace},(∀(j:Nat) t v,ts[j]? =some t→vs[j]? =some v→Value.okWide prog W .any n t v)→DataW.TrodAll enc prog W 0 (fun _=>true) true ts vs ds ps→apv (atStart W) ts vs∧ds.length=ts.length
 | [],[],ds,ps,_,h=>by
  cases ds with
  | nil=>exact⟨trivial,rfl⟩
  | cons d ds=>exact h.elim
 | [],_::_,_,_,_,h=>h.elim
 | _::_,[],_,_,_,h=>h.elim
 | t::ts,v::vs,[],_,_,h=>h.elim
 | t::ts,v::vs,d::ds,ps,hv,h=>by
  obtain⟨p,q,h1,h2,-⟩:=h
  obtain⟨h3,h4⟩:=apC (fun j t v a b=>hv (j+1) t v (by simpa using a) (by simpa using b)) h2
  exact⟨⟨aqi (hv 0 t v rfl rfl) h1,h3⟩,by simp[h4]⟩
theorem apt{H:Type}{enc:TypeId×Value→H}{W W':World}(hb:Below W.heap.size W W'):∀{ts:List TypeId} {vs:List Value} {ds:List (DataW H)} {ps:List MemPlace},(∀t∈ts,prog.readableRec t=true∧t<prog.types.size)→DataW.TrodAll enc prog W 0 (fun _=>true) true ts vs ds ps→(∀x∈ps,x.block<W.heap.size)→DataW.TrodAll enc prog W' 0 (fun b=>decide (b<W.heap.size)) true ts vs ds ps
 | [],[],ds,ps,_,h,_=>by
  cases ds with
  | nil=>exact h
  | cons d ds=>exact h.elim
 | [],_::_,_,_,_,h,_=>h.elim
 | _::_,[],_,_,_,h,_=>h.elim
 | t::ts,v::vs,[],_,_,h,_=>h.elim
 | t::ts,v::vs,d::ds,ps,ht,h,hlt=>by
  obtain⟨p,q,h1,h2,rfl⟩:=h
  exact⟨p,q,Below.trod YR (ht t (List.mem_cons_self ..)).1 (ht t (List.mem_cons_self ..)).2 h1 hb (fun x hx=>hlt x (List.mem_append_left _ hx)),apt hb (fun t h=>ht t (List.mem_cons_of_mem _ h)) h2 (fun x hx=>hlt x (List.mem_append_right _ hx)),rfl⟩
theorem aqT{s:ChangeSpec}{f:FuncId}{fn:Func}(os:Go.Os)(started:os.Started)(H:Type)(enc:TypeId×Value→H)(hfn:prog.funcs[f]? =some fn)(hinit:prog.inits.idxOf? f=none)(ts:List TypeId)(hp:fn.params.toList=ts)(hts:∀t∈ts,prog.readableRec t=true∧t<prog.types.size)(hr:fn.resultTypes.toList=[RS])(hrs:fn.resultTypes.size=1)(hv:s.vars=[])
  (hs:∀ds:List (DataW H),ds.length=ts.length→s.fn H ds={results:=[.lit (.bool true)],args:=ds})
  (
   witness:∃(w:World) (tape:Tape) (i:Input),w.os=os∧(w.forCall tape i).Shaped prog∧i.vars=[]∧Input.okWide prog (w.forCall tape i) .any w.heap.size f i∧
   ((s.pre enc prog fn [] false (w.forCall tape i).memory i.args∧laidMetH prog J9 (w.forCall tape i).memory)∧sizedMet enc prog fn (OpenSpec.ofChange s) false (w.forCall tape i).memory i.args)∧({calm:=true}:Assume).holds prog (lone (Frame.enter prog f i.args .normal) [] (w.forCall tape i)))
  (T:∀(main:Side) (_:∀S,main.ok S→∃Fin,S=Mo prog Fin) (_:main.b=true) (h:Hp) (args:List Value) (_:apv h ts args) (Eg:TypeId) (zg:Nat×Nat) (_:h 0=some (.cells #[Ur qM] Eg zg)) (_:h.z 0),QE prog main f args.toArray h (.bool true))
  (F:Stop.Interp):ReturnsInLeavingWide {calm:=true} Go.Proofs.Tryz.checked os f .any (fun w args=>(s.pre enc prog fn [] false w args∧laidMetH prog J9 w)∧sizedMet enc prog fn (OpenSpec.ofChange s) false w args) ((OpenSpec.ofChange s).postWith enc prog fn F (outsideKept [.timePasses]) false true false):=by
 refine returnsInLeavingWide_of_good (C:=Go.Proofs.Tryz.checked) afH started witness ?_
 intro w tape i _ _ _ hok hpre _
 obtain⟨_,_,_,fn',hfn',_,_,_,_,hval0⟩:=hok
 have e:fn'=fn:=Option.some.inj (hfn'.symm.trans hfn)
 subst e
 obtain⟨⟨⟨ds,gs,before,hw,-⟩,hx⟩,-⟩:=hpre
 have hW:=DataW.Whole.of_heap (w':=w.forCall tape i) (by rfl) hw
 have hL:laidMetH prog J9 (w.forCall tape i):=Ld (by rfl) hx
 generalize w.forCall tape i=W at*
 have hval:∀(j:Nat) t v,fn'.params[j]? =some t→i.args[j]? =some v→Value.okWide prog W .any w.heap.size t v:=hval0
 have hW':=hW
 obtain⟨p,q,hA0,hV,rfl,_,_⟩:=hW
 have hA:DataW.TrodAll enc prog W 0 (fun _=>true) true fn'.params.toList i.args.toList ds p:=hA0
 rw[hp]at hA
 obtain⟨hao,hdl⟩:=apC (n:=w.heap.size) (fun j t v a b=>hval j t v (by rw[←Array.getElem?_toList,hp];exact a) (by rw[←Array.getElem?_toList];exact b)) hA
 rw[hv]at hV
 obtain⟨rfl,rfl⟩:=trodVars_none hV
 simp only[List.append_nil]at hW'
 have hlt:∀x∈p,x.block<W.heap.size:=fun x hx=>by simpa using hW'.lt x hx
 obtain⟨E,z,hg⟩:=aaH hL
 have hgs:atStart W 0=some (.cells #[Ur qM] E z):=ku.2 ⟨hg,rfl⟩
 obtain⟨M,last,o,w',t',h1,h2,h3,h4⟩:=QE.run hinit (T (GI prog (tZ prog fun v _=>v= .bool true)) (fun S h=>⟨_,h⟩) rfl (atStart W) i.args.toList hao E z hgs ⟨_,hg,rfl⟩)
 refine⟨M,last,o,w',t',h1,h2,h3,h4.mono fun v hF=>?_⟩
 obtain⟨rfl,hk⟩:=hF
 have hb:=hk.below
 refine postWith_blind (postWith_of_post ⟨ds,[],p,[],p,[],hW',?_,?_,?_,hb.frame _,fun h=>by cases h⟩ hk.os)
 ·have hrl:Value.resultList fn'.resultTypes.size (.bool true)=[.bool true]:=by rw[hrs];rfl
  rw[List.append_nil,hs ds hdl,hrl,hr];exact trodAll_mk1 (shut_bool SS true)
 ·rw[List.append_nil,hs ds hdl,hp]
  exact apt hb hts hA hlt
 ·rw[List.append_nil,hs ds hdl,hv];rfl
end
end Go.aS

/- SyrupBoils's card. Conditions: as the card says; over the given program. -/
namespace Go.Proofs.YtkkdgffaohidnaaGreatDoor
open Go Go.aS
set_option maxRecDepth 100000
set_option maxHeartbeats 4000000
theorem ao6(main:Side)(hS:∀S,main.ok S→∃Fin,S=Mo prog Fin)(hmb:main.b=true)(h:Hp):∀(args:List Value) (_:apv h [aoG,Ag,dL,nS,nS] args) (Eg:TypeId) (zg:Nat×Nat) (_:h 0=some (.cells #[Ur qM] Eg zg)) (_:h.z 0),QE prog main anN args.toArray h (.bool true)
 | [v0,v1,v2,v3,v4],⟨h0,h1,h2,h3,h4,_⟩,Eg,zg,hg,z0=>by
  obtain⟨ps0,hp0⟩:=h0.arK rfl
  obtain⟨p1,rfl⟩:=h1.pan rfl
  obtain⟨n2,rfl⟩:=h2.int rfl
  obtain⟨x3,hx3⟩:=h3.ints rfl
  obtain⟨x4,hx4⟩:=h4.ints rfl
  apply apb main hS hmb h
  all_goals first | assumption | exact hg | exact z0
 | [],h,_,_,_,_=>h.elim
 | [v0],⟨h0,h⟩,_,_,_,_=>h.elim
 | [v0,v1],⟨h0,h1,h⟩,_,_,_,_=>h.elim
 | [v0,v1,v2],⟨h0,h1,h2,h⟩,_,_,_,_=>h.elim
 | [v0,v1,v2,v3],⟨h0,h1,h2,h3,h⟩,_,_,_,_=>h.elim
 | v0::v1::v2::v3::v4::v5::r,⟨h0,h1,h2,h3,h4,h⟩,_,_,_,_=>h.elim
theorem ao4:joinedFacts prog anN an2 Rows.syrupBoilsSpec Rows.syrupBoilsRow=true:=by
 unfold joinedFacts
 repeat' with_reducible refine Bool.and_eq_true_iff.2 ⟨?_,?_⟩
 all_goals first
  | with_reducible exact aci
  | (with_reducible refine makeT ?_;kernel_rfl)
  | (with_reducible refine aeb ?_;kernel_rfl)
  | (as_aux_lemma=>kernel_rfl)
theorem aoH:prog.funcNamed Rows.syrupBoilsRow.func=some anN:=by kernel_rfl
theorem ao7:prog.mainIs=some (true, "dbc29bbb9727fbebaf7429f7266f9d82b5a02ec0969210b724e1ed2dac66cc8d".toList):=ad9
theorem ao8:true=Rows.syrupBoilsRow.goesBy prog:=by kernel_rfl
theorem ao5:true=prog.looks []:=by kernel_rfl
theorem apc:Rows.SyrupBoilsSaid:=
 OpenClaim.holds_of_wide_leaving_time anN an2 rfl rfl rfl rfl rfl rfl rfl ⟨rfl,rfl,rfl,rfl,rfl⟩ rfl rfl rfl rfl rfl aoH aod ao4
  (of_decide_eq_true (by kernel_rfl)) (by unfold Func.isWrapper;first | (rw[if_pos (by decide+kernel)];kernel_rfl) | (rw[if_neg (by decide+kernel)];exact⟨rfl,rfl⟩))
  (
   fun os started H enc _ F=>aqT (s:=Rows.syrupBoilsSpec) os started H enc aod (by kernel_rfl) [aoG,Ag,dL,nS,nS] (by kernel_rfl) (fun t ht=>by
    have h0:([aoG,Ag,dL,nS,nS]:List TypeId).all (fun t=>prog.readableRec t&&Nat.blt t prog.types.size)=true:=by kernel_rfl
    have h1:=List.all_eq_true.1 h0 t ht
    rw[Bool.and_eq_true]at h1
    exact⟨h1.1,Nat.le_of_ble_eq_true h1.2⟩) (by kernel_rfl) (by kernel_rfl) rfl (fun ds hd=>by
    match ds,hd with
    | [d0,d1,d2,d3,d4],_=>rfl)
   (OB (enc:=enc) (C:=Tryz.checked) (os:=os) (X:=fun w _=>laidMetH prog J9 w) (laidWorld os) #[.slice none 0 0,.agg #[I 0,I 0,I 0],I 0,.slice none 0 0,.slice none 0 0] 8 rfl (by kernel_rfl) (by kernel_rfl) (by kernel_rfl) (by kernel_rfl) (by kernel_rfl) (laidWorld_met os _))
   (fun main hS hmb h args ha Eg zg hg z0=>ao6 main hS hmb h args ha Eg zg hg z0) F)

theorem SyrupBoils_card:Rows.SyrupBoilsCardSaid:=
 VZ .later [] [.handle] true (true, "dbc29bbb9727fbebaf7429f7266f9d82b5a02ec0969210b724e1ed2dac66cc8d") true
  apc (fun _ h=>by cases h) (by kernel_rfl) (fun _ h=>by cases h) syrupBoils_row_tie rfl ⟨rfl,rfl⟩ ao7 rfl
  (
   fun f fn hf hfn=>by
   obtain rfl:f=anN:=(Option.some.inj (aoH.symm.trans hf)).symm
   obtain rfl:fn=an2:=(Option.some.inj (aod.symm.trans hfn)).symm
   exact⟨ao5,fun j t ht=>by
    rw[show(an2).params= #[aoG,Ag,dL,nS,nS] by kernel_rfl]at ht
    have h3:([aoG,Ag,dL,nS,nS]:List TypeId).all (fun t=> !prog.wantsStandIn t)=true:=by kernel_rfl
    have h4:=List.all_eq_true.1 h3 t (List.mem_of_getElem? (by simpa using ht))
    exact(show prog.wantsStandIn t=false by simpa using h4)⟩)
  ao8
#print axioms SyrupBoils_card
end Go.Proofs.YtkkdgffaohidnaaGreatDoor
