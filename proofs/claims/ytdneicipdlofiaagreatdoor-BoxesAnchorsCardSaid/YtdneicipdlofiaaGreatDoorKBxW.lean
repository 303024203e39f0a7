/- How much the boxes of blocks come to: plain bounds. What becomes of the pending identifiers: plainly. Contract of (*maker).div: a Div that is no figure. Contracts of (*maker).block, kind by kind: Divs that are no figures. Contract of boxes.Of, where the blocks have their contract. The small case of layer 39, plainly. The small case of layer 39: its documents in memory, what boxes.Of returns of them, and 'text'. The small case of layer 39: the walk of 'text'. The small case of layer 39: the walk. -/
import Derived.Test.YtdneicipdlofiaaGreatDoorKBxKe
import Derived.Test.YtdneicipdlofiaaGreatDoorKChW
set_option maxHeartbeats 8000000
set_option maxRecDepth 100000
namespace Go.Proofs.YtdneicipdlofiaaGreatDoor
open List renaming setIfInBounds_toArray->jo9,set_cons_zero->joj,set_cons_succ->jok,length_map->jp5
open Go.RowKit.Below renaming refl->jox
open Nat renaming le_refl->joz,le_trans->jp0,zero_le->jpj
open Go.World renaming size_alloc->jpq
open Go renaming World->js1,Value->js3
open Go.RowKit renaming Below->js2
open Go.RowKit
set_option linter.unusedVariables false
set_option linter.unusedSimpArgs false
theorem bH.mono {n n':Nat} {st:St} {r:List Bx × St} (h:bH n st r) (hn:n<=n'):bH n' st r:=⟨h.rR.mono hn,jp0 h.len hn,h.err⟩
theorem bH.nil (n:Nat) (st:St):bH n st ([],st):=⟨iE.refl _ _,jpj _,fun _ _=>rfl⟩
theorem bH.leaf (st:St) (L:List Bx) (own:List ByteArray) (n:Nat) (h1:1<=n) (h2:L.length<=n):bH n st (bO st L own):=by obtain ⟨h3,h4⟩:=gD st L own n h1 h2;exact ⟨h3,by omega,fun e e0=>absurd e0 (by rw [jd] at e;exact e)⟩
theorem bH.jv {n n':Nat} {st s1:St} {a:List Bx} {r:List Bx × St} (h1:iE n st s1) (hl:a.length<=n) (h2:bH n' s1 r):bH (n+n') st (ahead a r):=by
 unfold ahead;split
 ·exact ⟨h1.trans h2.rR,jpj _,fun _ _=>rfl⟩
 ·rename_i h
  refine ⟨h1.trans h2.rR,?_,fun e=>absurd e h⟩;have:=h2.len;rw [List.length_append];omega
theorem Si (p:Px) (h:Int) (keep:Nat->Bool) (ts:List ByteArray):(bK p h keep ts).length=ts.length:=by simp [bK]
theorem iE.ES {n:Nat} {a b:St} (h:iE n a b):iE n a b.lim:=by have:=h.trans (O8 b);simpa using this
theorem iE.Xy (n:Nat) (st:St) (e:Nat):iE n st { st with err:=e }:=⟨by simp,by simp,by simp,rfl⟩
theorem bH.table (st:St) (p:Px) (ks:List ah) (n:Nat) (h1:1<=n) (h2:ks.length<=n):bH n st (iy st p ks):=by
 obtain ⟨h3,h4⟩:=gD st (bK p 1 (fun i=>decide (i=0)&&decide (1<ks.length)) (ks.map jh)) [] n h1 (by rw [Si];simpa using h2);have h5:=jd st (bK p 1 (fun i=>decide (i=0)&&decide (1<ks.length)) (ks.map jh)) [];rw [Si,jp5] at h4;unfold iy;by_cases hf:st.aV=true
 ·simp only [if_pos hf];exact ⟨h3,by omega,fun e e0=>absurd e0 (by rw [h5] at e;exact e)⟩
 ·simp only [if_neg hf];refine ⟨h3,?_,fun e e0=>absurd e0 (by simp only [h5] at e;exact e)⟩;simp only [bQ,jp5,List.length_zip];omega
theorem Xv (x:ah):30<=x.bM:=by obtain ⟨k,lv,i,t,d,ti,a,li,ks⟩:=x;rw [ah.bM];omega
mutual
theorem jR (W:Int) (hW:1<=W/\W<=1048576):∀ (x:ah) (st:St) (p:Px),bH x.bM st (ah.dG W st p x)
 | .mk k lv i t d ti a li ks,st,p=>by
  have hv:(ah.mk k lv i t d ti a li ks).bM=30+i.size+2*t.size+2*(aj.ay li).length+(bJ (aj.aA li)).length+ah.aK ks:=by rw [ah.bM]
  rw [ah.dG,hv];split
  ·split
   ·exact ⟨iE.Xy _ _ _,jpj _,fun _ _=>rfl⟩
   ·have:=(jr li p W hW).1;exact bH.leaf _ _ _ _ (by omega) (by rw [Si];omega)
  ·split
   ·refine bH.leaf _ _ _ _ (by omega) ?_;rw [Si];have h1:=jM (gT t);have h2:=eG t;omega
   ·split
    ·exact bH.leaf _ _ _ _ (by omega) (by simp;omega)
    ·split
     ·exact bH.table _ _ _ _ (by omega) (by have:=iR ks;omega)
     ·split
      ·exact (jo W hW ks st _).mono (by omega)
      ·split
       ·exact (Vd W hW ks st p k lv 0).mono (by omega)
       ·split
        ·split
         ·have h:=jo W hW ks { st with aV:=true } p;simp only;split
          ·exact ⟨⟨by have:=h.rR.g;simp only at this ⊢;omega,by have:=h.rR.c;simp only at this ⊢;omega,by have:=h.rR.p;simp only at this ⊢;omega,rfl⟩,jpj _,fun _ _=>rfl⟩
          ·rename_i he
           have h2:iE (ah.aK ks) st { (ah.bX W { st with aV:=true } p ks).2 with aV:=st.aV }:=⟨by have:=h.rR.g;simp only at this ⊢;omega,by have:=h.rR.c;simp only at this ⊢;omega,by have:=h.rR.p;simp only at this ⊢;omega,rfl⟩;have h3:=gD { (ah.bX W { st with aV:=true } p ks).2 with aV:=st.aV } [fV p (ah.bX W { st with aV:=true } p ks).1] (aW a li++ah.aN ks) 1 (by omega) (by simp);refine ⟨(h2.trans h3.1).mono (by omega),by rw [h3.2];simp;omega,fun e _=>?_⟩;rw [jd] at e;exact absurd e he
         ·have key:∀ s0:St,iE 1 st s0->(st.err=0->s0.err=0)->bH (30+i.size+2*t.size+2*(aj.ay li).length+(bJ (aj.aA li)).length+ah.aK ks) st (if (ah.bX W s0 p ks).1≠[]\/a.id.data.toList=[]\/(ah.bX W s0 p ks).2.err≠0 then ah.bX W s0 p ks else bO (ah.bX W s0 p ks).2 [Bx.new (p.first++⟨#[]⟩) 1 false] []):=by
           intro s0 h0 he0;have h:=jo W hW ks s0 p;split
           ·exact ⟨(h0.trans h.rR).mono (by omega),by have:=h.len;omega,fun e e0=>h.err e (he0 e0)⟩
           ·rename_i hn
            have h3:=gD (ah.bX W s0 p ks).2 [Bx.new (p.first++⟨#[]⟩) 1 false] [] 1 (by omega) (by simp);refine ⟨((h0.trans h.rR).trans h3.1).mono (by omega),by rw [h3.2];simp;omega,fun e _=>?_⟩;rw [jd] at e;exact absurd (.inr (.inr e)) hn
          refine key _ ?_ ?_
          ·split
           ·exact ⟨by simp,by simp,by simp,rfl⟩
           ·exact iE.refl _ _
          ·intro e;split<;>exact e
        ·split
         ·exact (jo W hW ks st _).mono (by omega)
         ·exact bH.nil _ _
theorem jo (W:Int) (hW:1<=W/\W<=1048576):∀ (l:List ah) (st:St) (p:Px),bH (ah.aK l) st (ah.bX W st p l)
 | [],st,p=>by rw [ah.bX];exact bH.nil _ _
 | x::l,st,p=>by
  have h:=jR W hW x st p;rw [JA];by_cases he:(x.dG W st p).2.lim.err=0
  ·rw [sI he];exact bH.jv h.rR.ES h.len (jo W hW l _ _)
  ·rw [kL he];exact ⟨h.rR.ES.mono (by omega),jpj _,fun _ _=>rfl⟩
theorem Vd (W:Int) (hW:1<=W/\W<=1048576):∀ (l:List ah) (st:St) (p:Px) (k lv:Int) (i:Nat),bH (ah.aK l) st (ah.oK W st p k lv i l)
 | [],st,p,k,lv,i=>by rw [ah.oK];exact bH.nil _ _
 | x::l,st,p,k,lv,i=>by
  have h:=AA W hW x st (p.mark (dn k lv i));rw [JA];by_cases he:(x.tJ W st (p.mark (dn k lv i))).2.err=0
  ·rw [sK he];exact bH.jv h.rR h.len (Vd W hW l _ _ _ _ _)
  ·rw [kM he];exact ⟨h.rR.mono (by omega),jpj _,fun _ _=>rfl⟩
theorem AA (W:Int) (hW:1<=W/\W<=1048576):∀ (x:ah) (st:St) (q:Px),bH x.bM st (ah.tJ W st q x)
 | .mk k lv i t d ti a li ks,st,q=>by
  have hv:(ah.mk k lv i t d ti a li ks).bM=30+i.size+2*t.size+2*(aj.ay li).length+(bJ (aj.aA li)).length+ah.aK ks:=by rw [ah.bM]
  rw [ah.tJ,hv];split
  ·exact bH.leaf _ _ _ _ (by omega) (by simp;omega)
  ·exact (jo W hW ks st q).mono (by omega)
end
open Go.RowKit
def bg (st:St) (r:List Bx × St):Prop:=r.2.err=0->(st.aV=false->(r.1=[]/\r.2.pend=st.pend)\/r.2.pend=[])/\(st.aV=true->r.2.pend=st.pend)
theorem bg.nil (st:St):bg st ([],st):=fun _=>⟨fun _=>.inl ⟨rfl,rfl⟩,fun _=>rfl⟩
theorem bg.bad {st:St} {r:List Bx × St} (h:r.2.err≠0):bg st r:=fun e=>absurd e h
theorem bg.leaf (st:St) (L:List Bx) (own:List ByteArray):bg st (bO st L own):=by
 intro _;unfold bO;by_cases hf:st.aV=true
 ·rw [if_pos hf];exact ⟨fun e=>by rw [hf] at e;simp at e,fun _=>rfl⟩
 ·rw [if_neg hf];exact ⟨fun _=>.inr rfl,fun e=>absurd e hf⟩
theorem bg.jv {st s1:St} {a:List Bx} {r:List Bx × St} (h1:bg st (a,s1)) (he:s1.err=0) (hf:s1.aV=st.aV) (h2:bg s1 r):bg st (ahead a r):=by
 unfold ahead;by_cases h:r.2.err≠0
 ·rw [if_pos h];exact bg.bad h
 ·rw [if_neg h];intro e;have k1:=h1 he;have k2:=h2 e;refine ⟨fun f=>?_,fun f=>(k2.2 (hf.trans f)).trans (k1.2 f)⟩;rcases k2.1 (hf.trans f) with ⟨e1,e2⟩ | e2
  ·rcases k1.1 f with ⟨e3,e4⟩ | e4
   ·left;simp only at e3;exact ⟨by show a++r.1=[];rw [e1,e3];rfl,e2.trans e4⟩
   ·right;exact e2.trans e4
  ·right;exact e2
theorem bg.table (st:St) (p:Px) (ks:List ah):bg st (iy st p ks):=by
 have h:=bg.leaf st (bK p 1 (fun i=>decide (i=0)&&decide (1<ks.length)) (ks.map jh)) [];unfold iy;by_cases hf:st.aV=true
 ·simp only [if_pos hf];exact h
 ·simp only [if_neg hf];intro e;refine ⟨fun f=>.inr ?_,fun f=>absurd f hf⟩;unfold bO;rw [if_neg hf]
mutual
theorem jb4 (W:Int) (hW:1<=W/\W<=1048576):∀ (x:ah) (st:St) (p:Px),bg st (ah.dG W st p x)
 | .mk k lv i t d ti a li ks,st,p=>by
  rw [ah.dG];split
  ·split
   ·rename_i h;exact bg.bad h
   ·exact bg.leaf _ _ _
  ·split
   ·exact bg.leaf _ _ _
   ·split
    ·exact bg.leaf _ _ _
    ·split
     ·exact bg.table _ _ _
     ·split
      ·exact lY W hW ks st _
      ·split
       ·exact Ve W hW ks st p k lv 0
       ·split
        ·split
         ·have h:=lY W hW ks { st with aV:=true } p;simp only;split
          ·rename_i he;exact bg.bad he
          ·rename_i he
           have h0:=(h (Decidable.not_not.1 he)).2 rfl;intro e;have h3:=bg.leaf { (ah.bX W { st with aV:=true } p ks).2 with aV:=st.aV } [fV p (ah.bX W { st with aV:=true } p ks).1] (aW a li++ah.aN ks) e;refine ⟨fun f=>?_,fun f=>(h3.2 f).trans h0⟩;rcases h3.1 f with ⟨e1,_⟩ | e1
           ·exfalso;unfold bO at e1;simp only [f] at e1;simp at e1
           ·exact .inr e1
         ·by_cases hid:a.id.data.toList≠[]/\st.aV=false
          ·rw [if_pos hid];have h:=lY W hW ks { st with pend:=st.pend++[a.id] } p;have hg:=jo W hW ks { st with pend:=st.pend++[a.id] } p;simp only;split
           ·rename_i hc
            intro e;refine ⟨fun f=>.inr ?_,fun f=>by rw [hid.2] at f;simp at f⟩;rcases (h e).1 f with ⟨e1,_⟩ | e1
            ·rcases hc with hc | hc | hc
             ·exact absurd e1 hc
             ·exact absurd hc hid.1
             ·exact absurd e hc
            ·exact e1
           ·intro e;have hfg:(ah.bX W { st with pend:=st.pend++[a.id] } p ks).2.aV=false:=by
             have:=hg.rR.f;rw [this];exact hid.2
            refine ⟨fun f=>.inr ?_,fun f=>by rw [hid.2] at f;simp at f⟩;unfold bO;rw [if_neg (by rw [hfg];decide)]
          ·rw [if_neg hid];have h:=lY W hW ks st p;have hg:=jo W hW ks st p;simp only;split
           ·exact h
           ·rename_i hc
            have hfg:(ah.bX W st p ks).2.aV=st.aV:=hg.rR.f;have hft:st.aV=true:=by
             cases hf:st.aV with
             | true=>rfl
             | false=>exact absurd (.inr (.inl (Decidable.not_not.1 (fun e=>hid ⟨e,hf⟩)))) hc
            have he0:(ah.bX W st p ks).2.err=0:=Decidable.not_not.1 (fun e=>hc (.inr (.inr e)));intro e;refine ⟨fun f=>by rw [hft] at f;simp at f,fun _=>?_⟩;unfold bO;rw [if_pos (hfg.trans hft)];exact (h he0).2 hft
        ·split
         ·exact lY W hW ks st _
         ·exact bg.nil _
theorem lY (W:Int) (hW:1<=W/\W<=1048576):∀ (l:List ah) (st:St) (p:Px),bg st (ah.bX W st p l)
 | [],st,p=>by rw [ah.bX];exact bg.nil _
 | x::l,st,p=>by
  have h:=jb4 W hW x st p;by_cases he:(x.dG W st p).2.lim.err=0
  ·rw [sI he];obtain ⟨h1,h2⟩:=wK he;rw [h1];exact bg.jv h h2 (jR W hW x st p).rR.f (lY W hW l _ _)
  ·rw [kL he];exact bg.bad he
theorem Ve (W:Int) (hW:1<=W/\W<=1048576):∀ (l:List ah) (st:St) (p:Px) (k lv:Int) (i:Nat),bg st (ah.oK W st p k lv i l)
 | [],st,p,k,lv,i=>by rw [ah.oK];exact bg.nil _
 | x::l,st,p,k,lv,i=>by
  have h:=jb5 W hW x st (p.mark (dn k lv i));by_cases he:(x.tJ W st (p.mark (dn k lv i))).2.err=0
  ·rw [sK he];exact bg.jv h he (AA W hW x st _).rR.f (Ve W hW l _ _ _ _ _)
  ·rw [kM he];exact bg.bad he
theorem jb5 (W:Int) (hW:1<=W/\W<=1048576):∀ (x:ah) (st:St) (q:Px),bg st (ah.tJ W st q x)
 | .mk k lv i t d ti a li ks,st,q=>by
  rw [ah.tJ];split
  ·exact bg.leaf _ _ _
  ·exact lY W hW ks st q
end
open Go.RowKit
theorem aI.via {m:Nat} {W:Int} {vp SV:js3} {r:List Bx × St} {w w1 w':js1} {e:Ending} (h:aI m W w1 SV r e w') (hF:aM (fun b=>b=m\/vp.ownBlock=some b) w w1) (hv1:∀ g,SV.ownBlock=some g->vp.ownBlock=some g\/w.heap.size<=g) (hp:r.2.err=0->SV=vp\/SV=.slice none 0 0\/∀ bS,mo m W r.2 bS w'->bS≠SV):aI m W w vp r e w':=by
 obtain ⟨v,rows,bS,rfl,hr,hm,hv,ho,Xt⟩:=h;have hb:=hr.basis hF.size;refine ⟨v,rows,bS,rfl,aO.l6 hb.1 hb.own (aL.keep (fun b h _=>⟨⟨h.1.elim (fun e=>(hv1 b e.1).elim (fun e2=>.inl ⟨e2,e.2⟩) .inr) .inr,h.2⟩,rfl⟩) _ _ hb.red) hb.2.len hb.2.oU hb.le hb.2.Uz,hm,fun he=>?_,fun g e=>?_,hF.trans Xt (fun b hlt e=>?_)⟩
 ·rcases hv he with h1 | h1
  ·rcases hp he with h2 | h2 | h2
   ·exact .inl (h1.trans h2)
   ·exact .inr (h1.trans h2)
   ·exact absurd h1 (h2 bS hm)
  ·exact .inr h1
 ·rcases ho g e with h1 | h1
  ·exact hv1 g h1
  ·exact .inr (jp0 hF.size h1)
 ·rcases e with e | e
  ·exact .inl e
  ·rcases hv1 b e with h1 | h1
   ·exact .inr h1
   ·omega
theorem AX {m:Nat} {W:Int} {s:St} {w:js1} {SV:js3} {a:Option Addr} {n c:Nat} (h1:SV=.slice a n c) (hn:n≠0) (hs:s.pend=[]):∀ bS,mo m W s bS w->bS≠SV:=by intro bS h e;obtain ⟨a',c',h2⟩:=h.slice;rw [hs] at h2;rw [e,h1] at h2;simp at h2;exact hn h2.2.1
theorem aI.ofV {m:Nat} {W:Int} {st:St} {vp gJ:js3} {N:Nat} {v:js3} {L:List Bx} {own:List ByteArray} {w w1 w':js1} {e:Ending} (h:qV m W st gJ N v L own w1 e w') (hF:aM (fun b=>b=m\/vp.ownBlock=some b) w w1) (hN:w.heap.size<=N) (hv1:∀ g,gJ.ownBlock=some g->vp.ownBlock=some g\/w.heap.size<=g) (hp:gJ=vp\/gJ=.slice none 0 0\/∀ bS,mo m W (bO st L own).2 bS w'->bS≠gJ):aI m W w vp (bO st L own) e w':=by
 obtain ⟨rows,bS,rfl,hr,hm,hv,Xt⟩:=h;have hb:=hr.basis hN;refine ⟨v,rows,bS,rfl,aO.l6 hb.1 hb.own (aL.keep (fun b h _=>⟨⟨h.1.elim (fun e=>(hv1 b e.1).elim (fun e2=>.inl ⟨e2,e.2⟩) .inr) .inr,h.2⟩,rfl⟩) _ _ hb.red) hb.2.len hb.2.oU hb.le hb.2.Uz,hm,fun _=>?_,fun g e=>?_,hF.trans Xt (fun b hlt e=>?_)⟩
 ·rcases hv with h1 | h1
  ·rcases hp with h2 | h2 | h2
   ·exact .inl (h1.trans h2)
   ·exact .inr (h1.trans h2)
   ·exact absurd h1 (h2 bS hm)
  ·exact .inr h1
 ·rcases hv with h1 | h1
  ·rw [h1] at e;exact hv1 g e
  ·rw [h1] at e;simp [Value.ownBlock] at e
 ·rcases e with e | e | e
  ·exact .inl e
  ·rcases hv1 b e with h1 | h1
   ·exact .inr h1
   ·omega
  ·have:=(hr.own.lt b e).1;omega
def zu (st:St) (a:At):St:=if a.id.data.toList≠[]/\st.aV=false then { st with pend:=st.pend++[a.id] } else st
theorem NP (w:js1) (cs:List js3) (f r:ByteArray):∃ S w2,S=w.heap.size/\w2=(w.alloc (.cells cs.toArray 40)).alloc (.cells #[.string f,.string r,.slice none 0 0] 153) /\ CB 40 S cs w2/\CB 153 (S+1) [.string f,.string r,.slice none 0 0] w2/\js2 w.heap.size w w2/\w2.heap.size=S+1+1:=by
 obtain ⟨w1,hw1⟩:∃ w1,w1=w.alloc (.cells cs.toArray 40):=⟨_,rfl⟩;obtain ⟨w2,hw2⟩:∃ w2,w2=w1.alloc (.cells #[.string f,.string r,.slice none 0 0] 153):=⟨_,rfl⟩;have z1:w1.heap.size=w.heap.size+1:=by rw [hw1];simp
 have z2:w2.heap.size=w.heap.size+1+1:=by rw [hw2];simp [z1]
 have k1:CB 40 w.heap.size cs w1:=by rw [hw1];exact CB.new _ _ _
 have k2:CB 153 (w.heap.size+1) [.string f,.string r,.slice none 0 0] w2:=by rw [hw2,<- z1];exact CB.new _ _ _
 have b2:js2 w1.heap.size w1 w2:=by rw [hw2];exact (jox _ _).alloc (joz _) _
 have b1:js2 w.heap.size w w1:=by rw [hw1];exact (jox _ _).alloc (joz _) _
 exact ⟨w.heap.size,w2,rfl,by rw [hw2,hw1],k1.below b2,k2,aP b1 b2,z2⟩
theorem SX (m:Nat) (W:Int) (w0:js1) (st:St) (vp:js3) (p:Px) (lv:Int) (i t d ti:ByteArray) (at_:At) (li:List aj) (ks:List ah) (vc dO vl vk:js3) (w:js1) (hin:jH m W w0 st vp p (ah.mk 13 lv i t d ti at_ li ks).bM w) (hR:rQ (·<w0.heap.size) w0 at_ li ks vc dO vl vk) (hB:gV m W w0 ks) (hi:i≠D5) : Calls Tryz.prog 139 #[.pointer (some ⟨m,0,none⟩),.agg #[.int .i64 13,.int .i64 lv,.string i,.string t,.string d,.string ti,.string at_.id,vc,dO,vl,vk],.agg #[.string p.first,.string p.rest,.slice none 0 0]] w (aI m W w vp (ah.dG W st p (.mk 13 lv i t d ti at_ li ks))):=by
 obtain ⟨iS,Hl,oV,oW,oZ⟩:=info_parts ku;obtain ⟨ac,nc,cc,rfl⟩:=Rd.au hR.at_.cls
 obtain ⟨ap,np,cp,rfl⟩:=Rd.au hR.at_.aJ
 obtain ⟨al,nl,cl,rfl⟩:=Rd.au hR.line;obtain ⟨ak,nk,ck,rfl⟩:=Rd.au hR.kids;obtain ⟨pa,pc,rfl⟩:=hin.l8.slice;obtain ⟨S,w2,hS,hw2,kb,kl,b2,z2⟩:=NP w [.int .i64 13,.int .i64 lv,.string i,.string t,.string d,.string ti,.string at_.id,.slice ac nc cc,.slice ap np cp,.slice al nl cl,.slice ak nk ck] p.first p.rest
 have hv:(ah.mk 13 lv i t d ti at_ li ks).bM=30+i.size+2*t.size+2*(aj.ay li).length+(bJ (aj.aA li)).length+ah.aK ks:=by rw [ah.bM]
 have hfit:=hin.fit;rw [hv] at hfit;obtain ⟨g1,g2,g3,g4,g5⟩:=hfit;have HE:Hid (ah.dG W st p (.mk 13 lv i t d ti at_ li ks)=if (ah.bX W (zu st at_) p ks).1≠[]\/at_.id.data.toList=[]\/(ah.bX W (zu st at_) p ks).2.err≠0 then ah.bX W (zu st at_) p ks else bO (ah.bX W (zu st at_) p ks).2 [Bx.new (p.first++⟨#[]⟩) 1 false] []):=by show _=_;rw [ah.dG];simp only [if_neg hi];rfl
 have hmk:=hin.l8;have hm2:=hmk.below b2;have vV:m<S:=by rw [hS];exact hmk.cb.lt
 have NQ:∀ b,(Value.slice pa st.pend.length pc).ownBlock=some b->b<S:=fun b e=>by rw [hS];exact (hmk.own.lt b e).2
 have IN:=Lib.hid hin;have HR:=Lib.hid hR;have HB:=Lib.hid hB;have KB:=Lib.hid kb;have KL:=Lib.hid kl;have B2:=Lib.hid b2;have HS:=Lib.hid hS;have M2:=Lib.hid hm2;have j6:=Lib.hid (And.intro vV NQ);have HZ2:=Lib.hid z2;have d6:=kb.cell 6 _ rfl;have d8:=kb.cell 10 _ rfl;have m4:=hm2.cb.cell 4 _ rfl;have m2:=hm2.cb.cell 2 _ rfl;have hie:=Ct at_.id
 obtain ⟨R,hRR⟩:∃ R,R=ah.dG W st p (.mk 13 lv i t d ti at_ li ks):=⟨_,rfl⟩;rw [<- hRR] at HE ⊢;obtain ⟨pn,hpn⟩:∃ pn,pn=st.pend.length:=⟨_,rfl⟩;have hcap:pn<=pc/\pc<=maxLen:=by
  have:=hm2.own;rw [<- hpn] at this;rcases this.2 with ⟨h1,h2⟩ | ⟨g,cap,cur,h1,_,_,h2,h3,_⟩
  ·simp at h1;omega
  ·simp at h1;exact ⟨by omega,by have:=h1.2;rw [this];exact h3⟩
 rw [<- hpn] at IN M2 j6 m2 ⊢;have HPN:=Lib.hid hpn;have jn8:pn<=1000000:=by omega
 clear hRR hi hv hmk hm2 vV NQ hin hR hB kb kl b2 z2 hpn;cases he:eP at_.id with
 | true=>
  rw [he] at hie;go_enter Tryz.func139,Tryz.ntmps139;go_upto_region 1 with (fail)
  rw [<- hw2,<- hS];clear hw2 hS m2;go_upto_region 4 with (fail)
  have FA:Hid (aM (fun b=>b=m\/(Value.slice pa pn pc).ownBlock=some b) w w2):=aM.of_below B2.out _;have MA:=M2;have KBA:=KB;have Nc:=KL;have LJ:Hid (∀ g,(Value.slice pa pn pc).ownBlock=some g->(Value.slice pa pn pc).ownBlock=some g\/w.heap.size<=g):=fun _ e=>.inl e
  have HST:Hid (zu st at_=st):=by show _=_;unfold zu;rw [if_neg (fun h=>h.1 (by simpa [eP] using he))]
  have b0:js2 w0.heap.size w0 w2:=IN.out.lH FA.out (fun b e=>by
   rcases e with e | e
   ·omega
   ·exact (IN.out.l8.own.lt b e).1)
  obtain ⟨r,hr⟩:∃ r,r=ah.bX W st p ks:=⟨_,rfl⟩;have BC:=Lib.hid (HB.out (.slice ak nk ck) HR.out.kids st (.slice pa pn pc) p w2 ⟨IN.out.m0,b0,MA.out,IN.out.wd,⟨by omega,by omega,by show st.groups+_<=_;omega,by show st.count+_<=_;omega,by show st.pend.length+_<=_;omega⟩,IN.out.tab,IN.out.ml⟩);have BJ:=Lib.hid (lY W IN.out.wd ks st p);have MX:=Lib.hid (jo W IN.out.wd ks st p);have Gr:Hid (R=if r.1≠[]\/at_.id.data.toList=[]\/r.2.err≠0 then r else bO r.2 [Bx.new (p.first++⟨#[]⟩) 1 false] []):=by show _=_;rw [HE.out,HST.out,<- hr]
  rw [<- hr] at BC BJ MX;have k10:=KBA.out.cell 10 _ rfl;have l0:=Nc.out.cell 0 _ rfl;have l1:=Nc.out.cell 1 _ rfl;clear b0 hr d6 d8 m4;go_wp2_with fail
  (with_reducible refine BC.out.mono ?_)
  rintro e w5 h5;have h5':=h5;obtain ⟨v5,kJ,gJ,rfl,qL,uV,iU,vX,yO⟩:=h5;obtain ⟨n5,qN⟩:∃ n5,n5=(r.1.map Bx.d).length:=⟨_,rfl⟩;obtain ⟨a5,c5,hv5⟩:=q01 qL.own;rw [<- qN] at hv5;subst hv5;have QY:=Lib.hid h5';have JH:Hid (n5=r.1.length):=Lib.hid (by rw [qN,jp5]);have m5:=uV.cb.cell 5 _ rfl;have zi:=Lib.hid uV;have yL:=Lib.hid yO;have SY:=Lib.hid iU;have Ho:=Lib.hid vX;clear h5' qL uV yO iU vX qN BC k10 l0 l1;have HP:Hid (aI m W w (.slice pa pn pc) R (.returned (.slice a5 n5 c5)) w5):=by show aI _ _ _ _ _ _ _;rw [Gr.out,if_pos (.inr (.inl (by simpa [eP] using he)))];exact QY.out.via FA.out LJ.out (fun _=>.inl rfl)
  by_cases h1:0<n5
  ·have q1:decide ((0:Int)<(n5:Int))=true:=by simp;omega
   have q1':decide (0<n5)=true:=by simpa using h1
   go_wp2;go_ret;exact HP.out
  ·have q1:decide ((0:Int)<(n5:Int))=false:=by simp;omega
   have q1':decide (0<n5)=false:=by simpa using h1
   go_wp2;go_ret;exact HP.out
 | false=>
  rw [he] at hie;cases hf:st.aV with
  | true=>
   rw [hf] at m4;go_enter Tryz.func139,Tryz.ntmps139;go_upto_region 1 with (fail)
   rw [<- hw2,<- hS];clear hw2 hS m2;go_upto_region 4 with (fail)
   have FA:Hid (aM (fun b=>b=m\/(Value.slice pa pn pc).ownBlock=some b) w w2):=aM.of_below B2.out _;have MA:=M2;have KBA:=KB;have Nc:=KL;have LJ:Hid (∀ g,(Value.slice pa pn pc).ownBlock=some g->(Value.slice pa pn pc).ownBlock=some g\/w.heap.size<=g):=fun _ e=>.inl e
   have HST:Hid (zu st at_=st):=by show _=_;unfold zu;rw [if_neg (fun h=>by rw [hf] at h;exact absurd h.2 (by decide))]
   have b0:js2 w0.heap.size w0 w2:=IN.out.lH FA.out (fun b e=>by
    rcases e with e | e
    ·omega
    ·exact (IN.out.l8.own.lt b e).1)
   obtain ⟨r,hr⟩:∃ r,r=ah.bX W st p ks:=⟨_,rfl⟩;have BC:=Lib.hid (HB.out (.slice ak nk ck) HR.out.kids st (.slice pa pn pc) p w2 ⟨IN.out.m0,b0,MA.out,IN.out.wd,⟨by omega,by omega,by show st.groups+_<=_;omega,by show st.count+_<=_;omega,by show st.pend.length+_<=_;omega⟩,IN.out.tab,IN.out.ml⟩);have BJ:=Lib.hid (lY W IN.out.wd ks st p);have MX:=Lib.hid (jo W IN.out.wd ks st p);have Gr:Hid (R=if r.1≠[]\/at_.id.data.toList=[]\/r.2.err≠0 then r else bO r.2 [Bx.new (p.first++⟨#[]⟩) 1 false] []):=by show _=_;rw [HE.out,HST.out,<- hr]
   rw [<- hr] at BC BJ MX;have k10:=KBA.out.cell 10 _ rfl;have l0:=Nc.out.cell 0 _ rfl;have l1:=Nc.out.cell 1 _ rfl;clear b0 hr d6 d8 m4;go_wp2_with fail
   (with_reducible refine BC.out.mono ?_)
   rintro e w5 h5;have h5':=h5;obtain ⟨v5,kJ,gJ,rfl,qL,uV,iU,vX,yO⟩:=h5;obtain ⟨n5,qN⟩:∃ n5,n5=(r.1.map Bx.d).length:=⟨_,rfl⟩;obtain ⟨a5,c5,hv5⟩:=q01 qL.own;rw [<- qN] at hv5;subst hv5;have QY:=Lib.hid h5';have JH:Hid (n5=r.1.length):=Lib.hid (by rw [qN,jp5]);have m5:=uV.cb.cell 5 _ rfl;have zi:=Lib.hid uV;have yL:=Lib.hid yO;have SY:=Lib.hid iU;have Ho:=Lib.hid vX;clear h5' qL uV yO iU vX qN BC k10 l0 l1;by_cases h1:0<n5
   ·have q1:decide ((0:Int)<(n5:Int))=true:=by simp;omega
    have q1':decide (0<n5)=true:=by simpa using h1
    have hne:r.1≠[]:=fun e=>by have:=JH.out;rw [e] at this;simp at this;omega
    have HP:Hid (aI m W w (.slice pa pn pc) R (.returned (.slice a5 n5 c5)) w5):=by show aI _ _ _ _ _ _ _;rw [Gr.out,if_pos (.inl hne)];exact QY.out.via FA.out LJ.out (fun _=>.inl rfl)
    clear hne;go_wp2;go_ret;exact HP.out
   ·have q1:decide ((0:Int)<(n5:Int))=false:=by simp;omega
    have q1':decide (0<n5)=false:=by simpa using h1
    have hz:r.1=[]:=List.length_eq_zero_iff.1 (by have:=JH.out;omega);by_cases h2:r.2.err=0;case neg=>
     have q2:((r.2.err:Int) != 0)=true:=by simp;omega
     have HP:Hid (aI m W w (.slice pa pn pc) R (.returned (.slice a5 n5 c5)) w5):=by show aI _ _ _ _ _ _ _;rw [Gr.out,if_pos (.inr (.inr h2))];exact QY.out.via FA.out LJ.out (fun e=>absurd e h2)
     clear h2 hz;go_wp2;go_ret;exact HP.out
    have q2:((r.2.err:Int) != 0)=false:=by simp;omega
    have hRE:Hid (R=bO r.2 [Bx.new (p.first++⟨#[]⟩) 1 false] []):=by
     show _=_;rw [Gr.out,if_neg];rintro (h | h | h)
     ·exact h hz
     ·exact of_decide_eq_false he h
     ·exact h h2
    have hvS:=oz MA.out.own Nc.out (by decide);have Ta:=Nc.out.fr yL.out (fun e=>by
     rcases e with e | e
     ·have:=j6.out.1;omega
     ·exact hvS e)
    have iU:gJ.ownBlock≠some (S+1):=oz zi.out.own Ta (by decide);have FW:Hid (aM (fun b=>b=m\/(Value.slice pa pn pc).ownBlock=some b) w w5):=FA.out.trans yL.out (fun b hlt e=>by
     rcases e with e | e
     ·exact .inl e
     ·rcases LJ.out b e with h | h
      ·exact .inr h
      ·omega)
    have Xz:Hid (∀ g,gJ.ownBlock=some g->(Value.slice pa pn pc).ownBlock=some g\/w.heap.size<=g):=by
     intro g e;rcases Ho.out g e with h | h
     ·exact LJ.out g h
     ·exact .inr (jp0 FA.out.size h)
    have XA:=Lib.hid (show r.2.groups<=1000000/\r.2.count<=1000000/\r.2.pend.length<=1000000 from (by have h:=MX.out.rR;have a1:=h.g;have a2:=h.c;have a3:=h.p;omega));have A1:=Lib.hid (iT (S+1) p [] (.slice none 0 0) w5.heap.size w5.heap.size ⟨#[]⟩ 1 false w5 (by omega) (by omega) (by show (0:Nat)<=_;omega) (by simp) Ta Ta.lt (aO.nil _ _ _ (joz _)));have XB:=Lib.hid iU;have hLP:Hid ((bO r.2 [Bx.new (p.first++⟨#[]⟩) 1 false] []).2.err=0->gJ=.slice pa pn pc\/gJ=.slice none 0 0\/∀ w' bS,mo m W (bO r.2 [Bx.new (p.first++⟨#[]⟩) 1 false] []).2 bS w'->bS≠gJ):=by
     intro _;rcases SY.out h2 with h | h
     ·exact .inl h
     ·exact .inr (.inl h)
    have HER:=Lib.hid h2;clear hvS Ta iU h2 hz h1;go_wp2_with fail
    (with_reducible refine A1.out.mono ?_)
    rintro e wB ⟨rfl,vB,EA,jP,wQ⟩;obtain ⟨LL,iq⟩:∃ LL,LL=[]++[Bx.new (p.text ([]:List Bx).length ⟨#[]⟩) 1 false]:=⟨_,rfl⟩;have Pf:LL=[Bx.new (p.first++⟨#[]⟩) 1 false]:=by rw [iq];rfl
    rw [<- iq] at jP;rw [<- Pf] at hRE hLP;have U4:mo m W r.2 gJ wB:=zi.out.fr wQ (fun e=>by
     rcases e with e | e
     ·have:=j6.out.1;omega
     ·simp [Value.ownBlock] at e) (fun g e e'=>by
     rcases e' with e' | e'
     ·rw [e'] at e;exact XB.out e
     ·simp [Value.ownBlock] at e')
    have FB:aM (fun b=>b=m\/(Value.slice pa pn pc).ownBlock=some b) w wB:=FW.out.trans wQ (fun b hb e=>by
     rcases e with e | e
     ·have:=HS.out;omega
     ·simp [Value.ownBlock] at e)
    have LF:=Lib.hid (kG m W r.2 gJ w5.heap.size wB.heap.size vB (.slice none 0 0) LL [] (fun _=>False) wB U4 (by rw [iq];simp) jP (by rw [iq];intro y hy;simp at hy;rw [hy];rfl) (Rd.aR _ _ _) (fun _ h=>h.elim) (by have:=XA.out;omega) (by have:=XA.out;omega) (by rw [iq];simp) (by have:=XA.out;simp;omega) zi.out.cb.lt (fun b e=>(zi.out.own.lt b e).2));have b2':=EA.cell 2 _ rfl;obtain ⟨aB,cB,hvB⟩:=q01 jP.own;have hlB:(LL.map Bx.d).length=1:=by rw [iq];rfl
    rw [hlB] at hvB;subst hvB;have YQ:=Lib.hid FB;have HSW:=Lib.hid FW.out.size;clear iq Pf U4 FB jP wQ EA A1 hlB;go_wp2_with fail
    (with_reducible refine LF.out.mono ?_)
    rintro e w7 hlp;have RA:aI m W w (.slice pa pn pc) R e w7:=by
     rw [hRE.out];exact aI.ofV hlp YQ.out HSW.out Xz.out (by
      by_cases h:(bO r.2 LL []).2.err=0
      ·rcases hLP.out h with h | h | h
       ·exact .inl h
       ·exact .inr (.inl h)
       ·exact .inr (.inr (h w7))
      ·rw [jd] at h;exact absurd HER.out h)
    have RA:=Lib.hid RA;obtain ⟨Aj,YH,rfl,-⟩:=hlp;clear LF;go_wp2;go_ret;exact RA.out
  | false=>
   rw [hf] at m4;have HO:Hid (w2.ownsRow m 9 1 (.slice pa pn pc) pn (st.pend.map Value.string)):=by show w2.ownsRow _ _ _ _ pn _;have:=M2.out.own;rwa [<- HPN.out] at this
   obtain ⟨hc1,hc2⟩:=hcap;unfold maxLen at hc2;go_enter Tryz.func139,Tryz.ntmps139;go_upto_region 1 with (fail)
   rw [<- hw2,<- hS];clear hw2 hS;have Ww:Hid (Reads (w2.alloc (.cells #[.string at_.id] 9)) (w2.alloc (.cells #[.string at_.id] 9)).heap.size 1 (some ⟨w2.heap.size,0,none⟩) 1 [.string at_.id]):=by exact ⟨rfl,fun _=>⟨_,rfl,by simp,lu _ _ _⟩⟩
   go_wp2_with (at_builtin;(refine Dy _ rfl _ _ 35 rfl m 9 iS _ 1 16 Tryz.underlying35 Hl oV oW oZ rfl (by decide) _ _ _ rfl (HO.out.alloc _) _ _ _ _ _ rfl Ww.out ?c1 ?c2 ?c3 ?c4 ?_))
   case c1=>intro u hu;simp at hu;subst hu;rfl
   case c2=>unfold maxLen;omega
   case c3=>omega
   case c4=>have:=M2.out.cb.lt;simp;omega
   intro v' w6 hown' hgrow hat;have sw:(Value.slice pa pn pc).ownBlock≠some m:=oz HO.out M2.out.cb (by decide);have bx:js2 w2.heap.size w2 (w2.alloc (.cells #[.string at_.id] 9)):=(jox _ _).alloc (joz _) _;have c6:=(M2.out.cb.below bx).fr (aM.grown hgrow) (fun e=>sw e);have kb6:=(KB.out.below bx).fr (aM.grown hgrow) (fun e=>by have:=j6.out.2 _ e;omega);have kl6:=(KL.out.below bx).fr (aM.grown hgrow) (fun e=>by have:=j6.out.2 _ e;omega);obtain ⟨a6,p6,hv6⟩:=q01 hown';subst hv6;have jb6:=oz hown' c6 (by decide);obtain ⟨wA,dX⟩:∃ wA,wA=w6.setCell ⟨m,2,none⟩ (.slice a6 (pn+1) p6):=⟨_,rfl⟩;obtain ⟨st1,Cc⟩:∃ st1:St,st1={ st with pend:=st.pend++[at_.id] }:=⟨_,rfl⟩;have MA:Hid (mo m W st1 (.slice a6 (pn+1) p6) wA):=by
    refine ⟨?_,?_⟩
    ·rw [dX,Cc];exact rY c6 2 _
    ·rw [dX,Cc];have:=dh hown' (aM.set w6 m 2 (.slice a6 (pn+1) p6)) (fun g e e'=>jb6 (by rw [<- e'];exact e));have hl:(st.pend++[at_.id]).length=pn+1:=by rw [List.length_append,HPN.out];rfl
     show World.ownsRow _ _ _ _ _ (st.pend++[at_.id]).length ((st.pend++[at_.id]).map Value.string);rw [hl,List.map_append];exact this
   have FA:Hid (aM (fun b=>b=m\/(Value.slice pa pn pc).ownBlock=some b) w wA):=by rw [dX];exact ((aM.of_below (aP B2.out bx) _).trans (aM.grown hgrow) (fun _ _ e=>.inr e)).trans (aM.set w6 m 2 _) (fun _ _ e=>.inl e)
   have LJ:Hid (∀ g,(Value.slice a6 (pn+1) p6).ownBlock=some g->(Value.slice pa pn pc).ownBlock=some g\/w.heap.size<=g):=by
    intro g e;rcases hat with h | h
    ·exact .inl (by rw [<- h];exact e)
    ·rw [h] at e;simp at e;right;have:=B2.out.size;omega
   have KBA:Hid (CB 40 S [.int .i64 13,.int .i64 lv,.string i,.string t,.string d,.string ti,.string at_.id,.slice ac nc cc,.slice ap np cp,.slice al nl cl,.slice ak nk ck] wA):=by rw [dX];exact kb6.fr (aM.set w6 m 2 _) (fun e=>by have:=j6.out.1;omega)
   have Nc:Hid (CB 153 (S+1) [.string p.first,.string p.rest,.slice none 0 0] wA):=by rw [dX];exact kl6.fr (aM.set w6 m 2 _) (fun e=>by have:=j6.out.1;omega)
   have HST:Hid (zu st at_=st1):=by show _=_;unfold zu;rw [if_pos ⟨by simpa [eP] using he,hf⟩,Cc]
   have x2:=c6.cell 2 _ rfl;have f2:=tN c6 2;have Vf:Hid (st1.groups=st.groups/\st1.count=st.count/\st1.pend.length=pn+1/\st1.aV=false):=by rw [Cc];exact ⟨rfl,rfl,by show (st.pend++[at_.id]).length=_;rw [List.length_append,HPN.out];rfl,hf⟩
   clear hown' hgrow hat bx c6 kb6 kl6 jb6 Cc m2 HO;go_upto_region 4 with (fail)
   rw [<- dX];clear dX x2 f2;have b0:js2 w0.heap.size w0 wA:=IN.out.lH FA.out (fun b e=>by
    rcases e with e | e
    ·omega
    ·exact (IN.out.l8.own.lt b e).1)
   obtain ⟨r,hr⟩:∃ r,r=ah.bX W st1 p ks:=⟨_,rfl⟩;have BC:=Lib.hid (HB.out (.slice ak nk ck) HR.out.kids st1 (.slice a6 (pn+1) p6) p wA ⟨IN.out.m0,b0,MA.out,IN.out.wd,⟨by omega,by omega,by have:=Vf.out.1;omega,by have:=Vf.out.2.1;omega,by have:=Vf.out.2.2.1;have:=HPN.out;omega⟩,IN.out.tab,IN.out.ml⟩);have BJ:=Lib.hid (lY W IN.out.wd ks st1 p);have MX:=Lib.hid (jo W IN.out.wd ks st1 p);have Gr:Hid (R=if r.1≠[]\/at_.id.data.toList=[]\/r.2.err≠0 then r else bO r.2 [Bx.new (p.first++⟨#[]⟩) 1 false] []):=by show _=_;rw [HE.out,HST.out,<- hr]
   rw [<- hr] at BC BJ MX;have k10:=KBA.out.cell 10 _ rfl;have l0:=Nc.out.cell 0 _ rfl;have l1:=Nc.out.cell 1 _ rfl;clear b0 hr d6 d8 m4;go_wp2_with fail
   (with_reducible refine BC.out.mono ?_)
   rintro e w5 h5;have h5':=h5;obtain ⟨v5,kJ,gJ,rfl,qL,uV,iU,vX,yO⟩:=h5;obtain ⟨n5,qN⟩:∃ n5,n5=(r.1.map Bx.d).length:=⟨_,rfl⟩;obtain ⟨a5,c5,hv5⟩:=q01 qL.own;rw [<- qN] at hv5;subst hv5;have QY:=Lib.hid h5';have JH:Hid (n5=r.1.length):=Lib.hid (by rw [qN,jp5]);have m5:=uV.cb.cell 5 _ rfl;have zi:=Lib.hid uV;have yL:=Lib.hid yO;have SY:=Lib.hid iU;have Ho:=Lib.hid vX;clear h5' qL uV yO iU vX qN BC k10 l0 l1;by_cases h1:0<n5
   ·have q1:decide ((0:Int)<(n5:Int))=true:=by simp;omega
    have q1':decide (0<n5)=true:=by simpa using h1
    have hne:r.1≠[]:=fun e=>by have:=JH.out;rw [e] at this;simp at this;omega
    have HP:Hid (aI m W w (.slice pa pn pc) R (.returned (.slice a5 n5 c5)) w5):=by show aI _ _ _ _ _ _ _;rw [Gr.out,if_pos (.inl hne)];exact QY.out.via FA.out LJ.out (fun e=>.inr (.inr (AX rfl (by omega) (by rcases (BJ.out e).1 Vf.out.2.2.2 with h | h;exact absurd h.1 hne;exact h))))
    clear hne;go_wp2;go_ret;exact HP.out
   ·have q1:decide ((0:Int)<(n5:Int))=false:=by simp;omega
    have q1':decide (0<n5)=false:=by simpa using h1
    have hz:r.1=[]:=List.length_eq_zero_iff.1 (by have:=JH.out;omega);by_cases h2:r.2.err=0;case neg=>
     have q2:((r.2.err:Int) != 0)=true:=by simp;omega
     have HP:Hid (aI m W w (.slice pa pn pc) R (.returned (.slice a5 n5 c5)) w5):=by show aI _ _ _ _ _ _ _;rw [Gr.out,if_pos (.inr (.inr h2))];exact QY.out.via FA.out LJ.out (fun e=>absurd e h2)
     clear h2 hz;go_wp2;go_ret;exact HP.out
    have q2:((r.2.err:Int) != 0)=false:=by simp;omega
    have hRE:Hid (R=bO r.2 [Bx.new (p.first++⟨#[]⟩) 1 false] []):=by
     show _=_;rw [Gr.out,if_neg];rintro (h | h | h)
     ·exact h hz
     ·exact of_decide_eq_false he h
     ·exact h h2
    have hvS:=oz MA.out.own Nc.out (by decide);have Ta:=Nc.out.fr yL.out (fun e=>by
     rcases e with e | e
     ·have:=j6.out.1;omega
     ·exact hvS e)
    have iU:gJ.ownBlock≠some (S+1):=oz zi.out.own Ta (by decide);have FW:Hid (aM (fun b=>b=m\/(Value.slice pa pn pc).ownBlock=some b) w w5):=FA.out.trans yL.out (fun b hlt e=>by
     rcases e with e | e
     ·exact .inl e
     ·rcases LJ.out b e with h | h
      ·exact .inr h
      ·omega)
    have Xz:Hid (∀ g,gJ.ownBlock=some g->(Value.slice pa pn pc).ownBlock=some g\/w.heap.size<=g):=by
     intro g e;rcases Ho.out g e with h | h
     ·exact LJ.out g h
     ·exact .inr (jp0 FA.out.size h)
    have XA:=Lib.hid (show r.2.groups<=1000000/\r.2.count<=1000000/\r.2.pend.length<=1000000 from (by have h:=MX.out.rR;have a1:=h.g;have a2:=h.c;have a3:=h.p;have b:=Vf.out;have c:=HPN.out;omega));have A1:=Lib.hid (iT (S+1) p [] (.slice none 0 0) w5.heap.size w5.heap.size ⟨#[]⟩ 1 false w5 (by omega) (by omega) (by show (0:Nat)<=_;omega) (by simp) Ta Ta.lt (aO.nil _ _ _ (joz _)));have XB:=Lib.hid iU;have hLP:Hid ((bO r.2 [Bx.new (p.first++⟨#[]⟩) 1 false] []).2.err=0->gJ=.slice pa pn pc\/gJ=.slice none 0 0\/∀ w' bS,mo m W (bO r.2 [Bx.new (p.first++⟨#[]⟩) 1 false] []).2 bS w'->bS≠gJ):=by
     intro _;rcases SY.out h2 with h | h
     ·exact .inr (.inr (fun w'=>by rw [h];exact AX rfl (by omega) (by unfold bO;rw [if_neg (by rw [MX.out.rR.f,Vf.out.2.2.2];decide)])))
     ·exact .inr (.inl h)
    have HER:=Lib.hid h2;clear hvS Ta iU h2 hz h1;go_wp2_with fail
    (with_reducible refine A1.out.mono ?_)
    rintro e wB ⟨rfl,vB,EA,jP,wQ⟩;obtain ⟨LL,iq⟩:∃ LL,LL=[]++[Bx.new (p.text ([]:List Bx).length ⟨#[]⟩) 1 false]:=⟨_,rfl⟩;have Pf:LL=[Bx.new (p.first++⟨#[]⟩) 1 false]:=by rw [iq];rfl
    rw [<- iq] at jP;rw [<- Pf] at hRE hLP;have U4:mo m W r.2 gJ wB:=zi.out.fr wQ (fun e=>by
     rcases e with e | e
     ·have:=j6.out.1;omega
     ·simp [Value.ownBlock] at e) (fun g e e'=>by
     rcases e' with e' | e'
     ·rw [e'] at e;exact XB.out e
     ·simp [Value.ownBlock] at e')
    have FB:aM (fun b=>b=m\/(Value.slice pa pn pc).ownBlock=some b) w wB:=FW.out.trans wQ (fun b hb e=>by
     rcases e with e | e
     ·have:=HS.out;omega
     ·simp [Value.ownBlock] at e)
    have LF:=Lib.hid (kG m W r.2 gJ w5.heap.size wB.heap.size vB (.slice none 0 0) LL [] (fun _=>False) wB U4 (by rw [iq];simp) jP (by rw [iq];intro y hy;simp at hy;rw [hy];rfl) (Rd.aR _ _ _) (fun _ h=>h.elim) (by have:=XA.out;omega) (by have:=XA.out;omega) (by rw [iq];simp) (by have:=XA.out;simp;omega) zi.out.cb.lt (fun b e=>(zi.out.own.lt b e).2));have b2':=EA.cell 2 _ rfl;obtain ⟨aB,cB,hvB⟩:=q01 jP.own;have hlB:(LL.map Bx.d).length=1:=by rw [iq];rfl
    rw [hlB] at hvB;subst hvB;have YQ:=Lib.hid FB;have HSW:=Lib.hid FW.out.size;clear iq Pf U4 FB jP wQ EA A1 hlB;go_wp2_with fail
    (with_reducible refine LF.out.mono ?_)
    rintro e w7 hlp;have RA:aI m W w (.slice pa pn pc) R e w7:=by
     rw [hRE.out];exact aI.ofV hlp YQ.out HSW.out Xz.out (by
      by_cases h:(bO r.2 LL []).2.err=0
      ·rcases hLP.out h with h | h | h
       ·exact .inl h
       ·exact .inr (.inl h)
       ·exact .inr (.inr (h w7))
      ·rw [jd] at h;exact absurd HER.out h)
    have RA:=Lib.hid RA;obtain ⟨Aj,YH,rfl,-⟩:=hlp;clear LF;go_wp2;go_ret;exact RA.out
open Go.RowKit
theorem Sv (m:Nat) (W:Int) (w0:js1) (st:St) (vp:js3) (p:Px) (lv:Int) (i t d ti:ByteArray) (at_:At) (li:List aj) (ks:List ah) (vc dO vl vk:js3) (w:js1) (hin:jH m W w0 st vp p (ah.mk 13 lv i t d ti at_ li ks).bM w) (hR:rQ (·<w0.heap.size) w0 at_ li ks vc dO vl vk) (hB:gV m W w0 ks) (hi:i≠D5) : Calls Tryz.prog 99 #[.pointer (some ⟨m,0,none⟩),.agg #[.int .i64 13,.int .i64 lv,.string i,.string t,.string d,.string ti,.string at_.id,vc,dO,vl,vk],.agg #[.string p.first,.string p.rest]] w (aI m W w vp (ah.dG W st p (.mk 13 lv i t d ti at_ li ks))):=by
 obtain ⟨ac,nc,cc,rfl⟩:=Rd.au hR.at_.cls
 obtain ⟨ap,np,cp,rfl⟩:=Rd.au hR.at_.aJ
 obtain ⟨al,nl,cl,rfl⟩:=Rd.au hR.line;obtain ⟨ak,nk,ck,rfl⟩:=Rd.au hR.kids;obtain ⟨S,q,w3,hS,hq,hw3,kb,kp,kl,b3,z3⟩:=qK w [.int .i64 13,.int .i64 lv,.string i,.string t,.string d,.string ti,.string at_.id,.slice ac nc cc,.slice ap np cp,.slice al nl cl,.slice ak nk ck] p.first p.rest
 have hv:(ah.mk 13 lv i t d ti at_ li ks).bM=30+i.size+2*t.size+2*(aj.ay li).length+(bJ (aj.aA li)).length+ah.aK ks:=by rw [ah.bM]
 have hfit:=hin.fit;rw [hv] at hfit;obtain ⟨g1,g2,g3,g4,g5⟩:=hfit;have Lj:=Lib.hid (hin.up b3);have HR:=Lib.hid hR;have KB:=Lib.hid kb;have KP:=Lib.hid kp;have B3:=Lib.hid b3;have HS:=Lib.hid hS;have d0:=kb.cell 0 _ rfl;have e0:=kp.cell 0 _ rfl;have e1:=kp.cell 1 _ rfl;have DV:=Lib.hid (SX m W w0 st vp p lv i t d ti at_ li ks (.slice ac nc cc) (.slice ap np cp) (.slice al nl cl) (.slice ak nk ck) w3 (hin.up b3) hR hB hi);have d1:=kb.cell 1 _ rfl;have d2:=kb.cell 2 _ rfl;have d3:=kb.cell 3 _ rfl;have d4:=kb.cell 4 _ rfl;have d5:=kb.cell 5 _ rfl;have d6:=kb.cell 6 _ rfl;have d7:=kb.cell 7 _ rfl;have d8:=kb.cell 8 _ rfl;have d9:=kb.cell 9 _ rfl;have d10:=kb.cell 10 _ rfl;have l0:=kl.cell 0 _ rfl;have l1:=kl.cell 1 _ rfl;have l2:=kl.cell 2 _ rfl;have hif:(i.toList==[102,105,103,117,114,101])=false:=by
  have h:=Cu (x:=D5) hi
  rwa [show D5.toList=[102,105,103,117,114,101] from by rw [Lib.toList_data];rfl] at h
 clear hB hi;clear kb kp kl b3 z3 hv g3 g4 g5 hR hin;go_enter Tryz.func99,Tryz.ntmps99;go_upto_region 2 with (fail)
 rw [<- hw3,<- hS,<- hq];clear hw3 hS hq;go_wp2_with fail
 (with_reducible refine DV.out.mono ?_)
 rintro e w5 h5;have HP:=Lib.hid (h5.from_ B3.out);obtain ⟨v5,kJ,gJ,rfl,qL,-⟩:=h5;obtain ⟨a5,n5,c5,hv5⟩:∃ a n c,v5=.slice a n c:=by obtain ⟨a,c,e⟩:=q01 qL.own;exact ⟨a,_,c,e⟩
 subst hv5;clear qL;go_wp2;go_ret;exact HP.out
open Go.RowKit
def kiI:aj->Int | .mk k _ _ _ _ _ _ _=>k
def EN (x:aj):Bool:=decide (kiI x=15)||(decide (kiI x=13)||decide (kiI x=14))
def LD (cl:ByteArray->Bool) (W:Int) (me:List Pr) (l:List ah):List Bx × Nat:=
 if eH cl me l≠0 then ([],eH cl me l) else if (ah.aQ l).any EN=true then ([],5) else zT W l
def OfB (r:List Bx × Nat) (w:js1) (e:Ending) (w':js1):Prop:=
 ∃ v,e=.returned (.tuple #[v,.int .i64 (r.2:Nat)])/\Rd (w.heap.size<=·) w' (.sl 6 (r.1.map Bx.d)) [v]/\js2 w.heap.size w w'
def Vg (l:List aj) (w2:js1) (vi:js3) (wr:js1):Prop:=∃ k:Nat,k<=l.length/\vi=.int .i64 k/\(l.take k).any EN=false/\js2 w2.heap.size w2 wr
theorem Ie (W:Int) (l:List ah) (r:List Bx × St) (h:r=ah.bX W ⟨0,[],0,false,0⟩ ⟨⟨#[]⟩,⟨#[]⟩⟩ l):zT W l=if r.2.err≠0 then ([],r.2.err) else if 4096<r.1.length then ([],3) else (r.1,0):=by unfold zT;rw [<- h]
theorem qR (cl:ByteArray->Bool) (W:Int) (me:List Pr) (l:List ah) (am ab:Option Addr) (cm nb cb:Nat) (w:js1) (hW:1<=W/\W<=1048576) (hme:me.length<=1000) (ET:∀ p∈me,p.key.size<=1000/\p.val.size<=1000) (hall:ah.aZ l<=32768) (hsm:ah.fD l) (hm:ah.zw l=true->uf cl) (hbd:ah.l9 l) (hsz:ah.aX l<=1000000) (hln:(ah.aQ l).length<=1000000) (jb7:ah.aK l<=900000) (h1:Rd (·<w.heap.size) w (Co me) [.slice am me.length cm]) (h2:Rd (·<w.heap.size) w (om l) [.slice ab nb cb]) (hB:eH cl me l=0->(ah.aQ l).any EN=false->∀ wz,js2 w.heap.size w wz->gV wz.heap.size W wz l) (ht:TabAt w) (hml:oh w) : Calls Tryz.prog 20 #[.agg #[.slice am me.length cm,.slice ab nb cb],.int .i64 W] w (OfB (LD cl W me l) w):=by
 obtain ⟨a2,c2,hv2,hs2⟩:=Rd.aC h2;obtain ⟨rfl,rfl,rfl⟩:a2=ab/\nb=l.length/\c2=cb:=by simp at hv2;exact ⟨hv2.1.symm,hv2.2.1,hv2.2.2.symm⟩
 obtain ⟨S,hS⟩:∃ S,S=w.heap.size:=⟨_,rfl⟩;obtain ⟨w1,hw1⟩:∃ w1,w1=w.alloc (.cells #[.slice am me.length cm,.slice a2 l.length c2] 25):=⟨_,rfl⟩;have kd:CB 25 S [.slice am me.length cm,.slice a2 l.length c2] w1:=by rw [hw1,hS];exact CB.new _ _ _
 have b1:js2 w.heap.size w w1:=by rw [hw1];exact (jox _ _).alloc (joz _) _
 have TC:=Lib.hid (Ig cl me l am a2 cm l.length c2 w1 hme ET hall hsm hm (h1.up b1) (h2.up b1));have HV:Hid (LD cl W me l=if eH cl me l≠0 then ([],eH cl me l) else if (ah.aQ l).any EN=true then ([],5) else zT W l):=rfl;obtain ⟨V,hV⟩:∃ V,V=LD cl W me l:=⟨_,rfl⟩;rw [<- hV] at HV ⊢;obtain ⟨DE,hDE⟩:∃ DE,DE=eH cl me l:=⟨_,rfl⟩;rw [<- hDE] at HV TC hB;have HB:=Lib.hid hB;have KD:=Lib.hid kd;have B1:=Lib.hid b1;have H2:=Lib.hid h2;have HS:=Lib.hid hS;have HT:=Lib.hid ht;have HM:=Lib.hid hml;have uR:=Lib.hid (And.intro hbd (And.intro hsz hln));have JN:=Lib.hid jb7;obtain ⟨hW1,hW2⟩:=hW;have d0:=kd.cell 0 _ rfl;have d1:=kd.cell 1 _ rfl;have q1:decide (W<1)=false:=by simp;omega
 have q2:decide ((1048576:Int)<W)=false:=by simp;omega
 obtain ⟨nl,hnl⟩:∃ nl,nl=l.length:=⟨_,rfl⟩;obtain ⟨nm,hnm⟩:∃ nm,nm=me.length:=⟨_,rfl⟩;rw [<- hnl] at TC d1 KD H2 hw1 ⊢;rw [<- hnm] at TC d0 KD hw1 ⊢;clear h1 h2 hv2 hs2 hV hDE hB kd b1 ht hml hbd hsz hln jb7 hme ET hall hsm hm hnl hnm;go_enter Tryz.func20,Tryz.ntmps20;go_upto_region 1 with (fail)
 rw [<- hw1,<- hS];clear hw1 hS;go_wp2_with fail
 (with_reducible refine TC.out.mono ?_)
 rintro e w2 ⟨rfl,b2⟩;have B2:=Lib.hid (aP B1.out b2);have KD2:=Lib.hid (KD.out.below b2);have x0:=KD2.out.cell 0 _ rfl;have x1:=KD2.out.cell 1 _ rfl;clear b2 TC KD d0 d1;by_cases hd:DE=0;case neg=>
  have q3:((DE:Int)==0)=false:=by simpa using hd
  have HE:Hid (V=([],DE)):=by show _=_;rw [HV.out,if_pos hd]
  clear hd;go_wp2
  go_ret2
  rw [HE.out];exact ⟨_,rfl,Rd.aR _ _ _,B2.out⟩
 have q3:((DE:Int)==0)=true:=by rw [hd];rfl
 have HD:=Lib.hid hd;have IC:=Lib.hid (EU l (.slice a2 nl c2) w2 (H2.out.up B2.out) uR.out.1 uR.out.2.1 uR.out.2.2);clear hd;go_wp2_with fail
 (with_reducible refine IC.out.mono ?_)
 rintro e w3 ⟨v3,jmj,rfl,hown3,jb8,h10,b3⟩;obtain ⟨n,hn⟩:∃ n,n=(ah.aQ l).length:=⟨_,rfl⟩;have hn1:n<=1000000:=by have:=uR.out.2.2;omega
 rw [<- hn] at hown3;obtain ⟨a3,c3,rfl⟩:=q01 hown3;have Pg:n<=c3/\c3<=maxLen:=by
  rcases hown3.2 with ⟨h1,h2⟩ | ⟨g,cap,cur,h1,_,_,h2,h3,_⟩
  ·simp at h1;omega
  ·simp at h1;exact ⟨by omega,by have:=h1.2;rw [this];exact h3⟩
 have hcap1:=Pg.1;have hcap2:=Pg.2;unfold maxLen at hcap2;have R0:Hid (Vg (ah.aQ l) w3 (.int .i64 0) w3):=⟨0,jpj _,rfl,rfl,jox _ _⟩;have HN:=Lib.hid hn;have Wt:=Lib.hid hown3;have HR3:=Lib.hid (And.intro jb8 h10);have B3:=Lib.hid (aP B2.out b3);have KD3:=Lib.hid (KD2.out.below b3);clear hn hown3 jb8 h10 b3 x0 x1 KD2 IC Pg;go_wp2
 go_loopw [26] (fun vi wr=>Vg (ah.aQ l) w3 vi wr) (fun vi _=>n-(intOf vi).toNat)
 case atStart=>exact R0.out
 case round=>
  clear R0;obtain ⟨k,hk,rfl,hany,hbel⟩:=hrel;have hkn:k<=n:=by have:=HN.out;omega
  by_cases hlt:k<n
  ·obtain ⟨y,hy⟩:∃ y,(ah.aQ l)[k]?=some y:=⟨_,List.getElem?_eq_getElem (by have:=HN.out;omega)⟩;obtain ⟨yk,yt,yd,uI,uJ,yar,yci,iC⟩:=y;have hrow:=zY Wt.out hbel;rw [HN.out] at hrow;obtain ⟨g,cap,ac,nc,cc,ap,np,cp,aa,na,ca,ai,ni,ci,ak,nk,ck,hv3,c0,c1,c2',c3',c4,c5,c6,c7,c8,c9⟩:=JO hrow HR3.out.1 HR3.out.2 hy;obtain ⟨rfl,rfl⟩:a3=some ⟨g,0,none⟩/\c3=cap:=by simp at hv3;exact ⟨hv3.1,hv3.2⟩
   have hsn:((ah.aQ l).take (k+1)).any EN=EN (.mk yk yt yd uI uJ yar yci iC):=by rw [List.take_add_one,hy,List.any_append,hany];simp
   have rZ:=Lib.hid hsn;have El:=Lib.hid hbel;have HYY:=Lib.hid (List.mem_of_getElem? hy);clear hany hy hrow hsn hbel hv3;rcases (by omega:yk=15\/yk=13\/yk=14\/(yk≠15/\yk≠13/\yk≠14)) with rfl | rfl | rfl | ⟨hy1,hy2,hy3⟩
   case' inr.inr.inr=>
    have f1:=beq_false_of_ne hy1;have f2:=beq_false_of_ne hy2;have f3:=beq_false_of_ne hy3;have hz:EN (.mk yk yt yd uI uJ yar yci iC)=false:=by show (decide (yk=15)||(decide (yk=13)||decide (yk=14)))=false;simp [hy1,hy2,hy3]
    have HZ:=Lib.hid hz;clear hy1 hy2 hy3 hz;go_wp2;go_roundw;case rel=>exact ⟨k+1,by have:=HN.out;omega,by go_num,by rw [rZ.out,HZ.out],El.out.alloc El.out.size _⟩
    case measure=>simp [intOf];omega
   all_goals
    have HE:Hid (V=([],5)):=by show _=_;rw [HV.out,if_neg (fun e=>e HD.out),if_pos];exact List.any_eq_true.2 ⟨_,HYY.out,rfl⟩
    have HF:=Lib.hid (aP B3.out El.out);go_wp2
    go_ret2
    rw [HE.out];exact ⟨_,rfl,Rd.aR _ _ _,HF.out.alloc HF.out.size _⟩
  ·have hkl:k=(ah.aQ l).length:=by have:=HN.out;omega
   have hkn':k=n:=by omega
   rw [hkl,List.take_length] at hany;have zZ:=Lib.hid (aP B3.out hbel);have KDW:=Lib.hid (KD3.out.below hbel);have Gr:Hid (V=zT W l):=by show _=_;rw [HV.out,if_neg (fun e=>e HD.out),if_neg (by rw [hany];simp)]
   have x1:=KDW.out.cell 1 _ rfl;obtain ⟨m,hm⟩:∃ m,m=wr.heap.size:=⟨_,rfl⟩;obtain ⟨wm,JJ⟩:∃ wm,wm=wr.alloc (.cells #[.int .i64 W,.int .i64 0,.slice none 0 0,.int .i64 0,.bool false,.int .i64 0] 84):=⟨_,rfl⟩;have km:mo m W ⟨0,[],0,false,0⟩ (.slice none 0 0) wm:=⟨by rw [JJ,hm];exact CB.new _ _ _,⟨by simp,.inl ⟨rfl,rfl⟩⟩⟩;have bm:js2 wr.heap.size wr wm:=by rw [JJ];exact (jox _ _).alloc (joz _) _
   have hin:jH m W wr ⟨0,[],0,false,0⟩ (.slice none 0 0) ⟨⟨#[]⟩,⟨#[]⟩⟩ (ah.aK l) wm:=⟨by omega,bm,km,⟨hW1,hW2⟩,⟨by show 0+_<=_;have:=JN.out;omega,by show 0+_<=_;have:=JN.out;omega,by have:=JN.out;simp;omega,by have:=JN.out;simp;omega,by have:=JN.out;simp;omega⟩,HT.out.below zZ.out,HM.out.below zZ.out⟩;have BC:=Lib.hid ((by rw [hm];exact HB.out HD.out hany wr zZ.out:gV m W wr l) (.slice a2 nl c2) (H2.out.up zZ.out) _ _ _ wm hin);have HG:=Lib.hid (jo W ⟨hW1,hW2⟩ l ⟨0,[],0,false,0⟩ ⟨⟨#[]⟩,⟨#[]⟩⟩);obtain ⟨r,hr⟩:∃ r,r=ah.bX W ⟨0,[],0,false,0⟩ ⟨⟨#[]⟩,⟨#[]⟩⟩ l:=⟨_,rfl⟩;have HE2:=Lib.hid (Ie W l r hr);rw [<- hr] at BC HG;have HBM:=Lib.hid (aP zZ.out bm);have y1:=(KDW.out.below bm).cell 1 _ rfl;have HMM:=Lib.hid hm;clear hkl hany hbel km bm hin hr;go_upto_region 16 with (fail)
   rw [<- JJ,<- hm];clear JJ hm;go_wp2_with fail
   (with_reducible refine BC.out.mono ?_)
   rintro e w5 ⟨v5,kJ,gJ,rfl,iJ,hmk5,-,-,sJ⟩;obtain ⟨n5,qN⟩:∃ n5,n5=(r.1.map Bx.d).length:=⟨_,rfl⟩;obtain ⟨a5,c5,hv5⟩:=q01 iJ.own;rw [<- qN] at hv5;subst hv5;have JH:Hid (n5=r.1.length):=Lib.hid (by rw [qN,jp5]);have jaj:n5<=1000000:=by rw [JH.out];have:=HG.out.len;have:=JN.out;omega
   have hmw:w.heap.size<=m:=by rw [HMM.out];exact zZ.out.size
   have yL:Hid (js2 w.heap.size w w5):=HBM.out.trans (sJ.below _ HBM.out.size (fun b e=>by
    rcases e with e | e
    ·omega
    ·simp [Value.ownBlock] at e))
   have Rx:Hid (Rd (w.heap.size<=·) w5 (.sl 6 (r.1.map Bx.d)) [.slice a5 n5 c5]):=by
    have h:=iJ.2.rd;rw [iJ.sz] at h;refine h.weaken (fun b hb=>?_);rcases hb with hb | hb
    ·simp [Value.ownBlock] at hb
    ·exact jp0 HBM.out.size hb
   have f5:=hmk5.cb.cell 5 _ rfl;have ff:=tN hmk5.cb;clear iJ hmk5 sJ qN hmw BC y1 x1;by_cases he:r.2.err=0
   ·have q4:(((r.2.err:Nat):Int)==0)=true:=by rw [he];rfl
    by_cases hcc:4096<n5
    ·have q5:decide ((4096:Int)<(n5:Int))=true:=by simp;omega
     have HE:Hid (V=([],3)):=by show _=_;rw [Gr.out,HE2.out,if_neg (fun e=>e he),if_pos (by rw [<- JH.out];exact hcc)]
     clear he hcc;go_wp2
     go_ret2
     rw [HE.out];exact ⟨_,rfl,Rd.aR _ _ _,yL.out⟩
    ·have q5:decide ((4096:Int)<(n5:Int))=false:=by simp;omega
     have HE:Hid (V=(r.1,0)):=by show _=_;rw [Gr.out,HE2.out,if_neg (fun e=>e he),if_neg (by rw [<- JH.out];exact hcc)]
     clear he hcc;go_wp2
     go_ret2
     rw [HE.out];exact ⟨_,rfl,Rx.out,yL.out⟩
   ·have q4:(((r.2.err:Nat):Int)==0)=false:=by simp;omega
    have HE:Hid (V=([],r.2.err)):=by show _=_;rw [Gr.out,HE2.out,if_pos he]
    clear he;go_wp2_with fail
    go_quiet (fail)
    go_wp2
    go_ret2
    rw [HE.out];exact ⟨_,rfl,Rd.aR _ _ _,eZ yL.out _⟩
deriving instance DecidableEq for Bx
def Gx (t:ByteArray):aj:=.mk 1 t ⟨#[]⟩ ⟨#[]⟩ ⟨⟨#[]⟩,[],[]⟩ [] [] []
def LV (k lv:Int) (id:ByteArray) (li:List aj) (ks:List ah):ah:=.mk k lv ⟨#[]⟩ ⟨#[]⟩ ⟨#[]⟩ ⟨#[]⟩ ⟨id,[],[]⟩ li ks
def YV (t:ByteArray):ah:=LV 1 0 ⟨#[]⟩ [Gx t] []
def XC:List ah:=[LV 2 1 ⟨#[97]⟩ [Gx ⟨#[65]⟩] [],YV ⟨#[98]⟩]
def Vh:List ah:=[LV 6 0 ⟨#[]⟩ [] [LV 7 0 ⟨#[]⟩ [] [LV 9 0 ⟨#[]⟩ [] [YV ⟨#[97]⟩]]]]
def XD:List ah:=[YV ⟨#[109,32,109,32,109]⟩]
def QZ:List Bx:=[⟨⟨#[65]⟩,2,0,true,false,[⟨#[97]⟩]⟩,⟨⟨#[98]⟩,1,1,false,false,[]⟩]
def YW:List Bx:=[⟨⟨#[62,32,45,32,97]⟩,1,0,false,false,[]⟩]
def YX:List Bx:=[⟨⟨#[109]⟩,1,0,true,false,[]⟩,⟨⟨#[109]⟩,1,0,true,false,[]⟩,⟨⟨#[109]⟩,1,0,false,false,[]⟩]
theorem jb9:LD (fun _=>true) 1000 [] XC=(QZ,0):=by decide +kernel
theorem jbj:LD (fun _=>true) 1000 [] Vh=(YW,0):=by decide +kernel
theorem jbk:LD (fun _=>true) 85 [] XD=(YX,0):=by decide +kernel
theorem jbq:jm QZ=0:=by decide +kernel
theorem jbx:jm [⟨⟨#[]⟩,0,0,false,false,[]⟩]=9:=by decide +kernel
open Go.RowKit
theorem Rd.JQ {ok:Nat->Prop} {w:js1} {k:Nat} {l:List D} {rows:List (List js3)} {b cap:Nat} (hl:l.length<=cap) (hm:cap<=maxLen) (h:aL ok w l rows) (hk:∀ r∈rows,r.length=k) (hok:ok b) (hb:b<w.heap.size) (hc:∀ j u,rows.flatten[j]?=some u->w.cell? ⟨b,j,none⟩=some u):Rd ok w (.sl k l) [.slice (some ⟨b,0,none⟩) l.length cap]:=by unfold Rd;exact ⟨_,cap,rows,rfl,hl,hm,h,hk,.inr ⟨b,0,rfl,hok,hb,fun j u hu=>by rw [Nat.zero_add];exact hc j u hu⟩⟩
def yE (t:ByteArray):List js3:=[.int .i64 1,.string t,.string ⟨#[]⟩,.string ⟨#[]⟩,.string ⟨#[]⟩,.slice none 0 0,.slice none 0 0,.slice none 0 0,.slice none 0 0,.slice none 0 0]
def mg (k lv:Int) (id:ByteArray) (vl vk:js3):List js3:=[.int .i64 k,.int .i64 lv,.string ⟨#[]⟩,.string ⟨#[]⟩,.string ⟨#[]⟩,.string ⟨#[]⟩,.string id,.slice none 0 0,.slice none 0 0,vl,vk]
theorem XE (ok:Nat->Prop) (w:js1) (t:ByteArray):Rd ok w (Gx t).d (yE t):=aj.l6 1 t ⟨#[]⟩ ⟨#[]⟩ ⟨⟨Rd.aR _ _ _,Rd.aR _ _ _⟩,Rd.aR _ _ _,Rd.aR _ _ _,Rd.aR _ _ _⟩
theorem pF {ok:Nat->Prop} {w:js1} (k lv:Int) (id:ByteArray) {li:List aj} {ks:List ah} {vl vk:js3} (h:Rd ok w (fK li) [vl]) (h2:Rd ok w (om ks) [vk]):Rd ok w (LV k lv id li ks).d (mg k lv id vl vk):=ah.l6 k lv ⟨#[]⟩ ⟨#[]⟩ ⟨#[]⟩ ⟨#[]⟩ ⟨⟨Rd.aR _ _ _,Rd.aR _ _ _⟩,h,h2⟩
theorem Cv {w:js1} {p:Nat} {t:ByteArray} (k:CB 43 p (yE t) w) (ok:Nat->Prop) (h:ok p):Rd ok w (fK [Gx t]) [.slice (some ⟨p,0,none⟩) 1 1]:=
 Rd.JQ (l:=[Gx t].map aj.d) (rows:=[yE t]) (by simp) (by unfold maxLen;decide) (aL.one (XE _ _ _)) (by simp [yE]) h k.lt (fun j u hu=>k.cell j u (by simpa using hu))
theorem EW {ok:Nat->Prop} {w:js1} {p:Nat} {x:ah} {cs:List js3} (h:Rd ok w x.d cs) (hl:cs.length=11) (k:CB 40 p cs w) (hp:ok p):Rd ok w (om [x]) [.slice (some ⟨p,0,none⟩) 1 1]:=
 Rd.JQ (l:=[x].map ah.d) (rows:=[cs]) (by simp) (by unfold maxLen;decide) (aL.one h) (by simpa using hl) hp k.lt (fun j u hu=>k.cell j u (by simpa using hu))
theorem jbz {ok:Nat->Prop} {w:js1} {p:Nat} {x y:ah} {cs ds:List js3} (h:Rd ok w x.d cs) (hl:cs.length=11) (h2:Rd ok w y.d ds) (hl2:ds.length=11) (k:CB 40 p (cs++ds) w) (hp:ok p):Rd ok w (om [x,y]) [.slice (some ⟨p,0,none⟩) 2 2]:=
 Rd.JQ (l:=[x,y].map ah.d) (rows:=[cs,ds]) (by simp) (by unfold maxLen;decide) (aL.cons h (aL.one h2)) (by simp [hl,hl2]) hp k.lt (fun j u hu=>k.cell j u (by simpa using hu))
theorem Cw (m:Nat) (W:Int) (w0:js1) (k lv:Int) (id t:ByteArray) (hk:k=1\/k=2) (hsh:(aj.ay [Gx t]).length<=100000) (hle:fU [Gx t]=0) (DF:(bJ (aj.aA [Gx t])).length<=100000):R7 m W w0 (LV k lv id [Gx t] []):=
 fun vc dO vl vk hR st vp p w hin=>kK m W w0 st vp p k lv ⟨#[]⟩ ⟨#[]⟩ ⟨#[]⟩ ⟨#[]⟩ ⟨id,[],[]⟩ [Gx t] [] vc dO vl vk w (by omega) hin hR hsh hle (by decide) DF
theorem jc0 (m:Nat) (w0:js1):gV m 1000 w0 XC:=
 q1z m 1000 w0 XC (fun x hx=>by
  rcases List.mem_cons.1 hx with rfl | hx
  ·exact Cw m 1000 w0 2 1 _ _ (.inr rfl) (by decide +kernel) (by decide +kernel) (by decide +kernel)
  ·obtain rfl:=List.mem_singleton.1 hx;exact Cw m 1000 w0 1 0 _ _ (.inl rfl) (by decide +kernel) (by decide +kernel) (by decide +kernel)) (fun x _=>jR 1000 (by decide) x)
theorem jc1 (m:Nat) (w0:js1):gV m 85 w0 XD:=
 q1z m 85 w0 XD (fun x hx=>by
  obtain rfl:=List.mem_singleton.1 hx;exact Cw m 85 w0 1 0 _ _ (.inl rfl) (by decide +kernel) (by decide +kernel) (by decide +kernel)) (fun x _=>jR 85 (by decide) x)
def yk1:List ah:=[YV ⟨#[97]⟩]
def yk2:List ah:=[LV 9 0 ⟨#[]⟩ [] yk1]
def yk3:List ah:=[LV 7 0 ⟨#[]⟩ [] yk2]
theorem jc2 (m:Nat) (w0:js1):gV m 1000 w0 yk1:=
 q1z m 1000 w0 yk1 (fun x hx=>by
  obtain rfl:=List.mem_singleton.1 hx;exact Cw m 1000 w0 1 0 _ _ (.inl rfl) (by decide +kernel) (by decide +kernel) (by decide +kernel)) (fun x _=>jR 1000 (by decide) x)
theorem jc3 (m:Nat) (w0:js1):gV m 1000 w0 yk3:=
 q1z m 1000 w0 yk3 (fun x hx=>by
  obtain rfl:=List.mem_singleton.1 hx;exact fun vc dO vl vk hR st vp p w hin=>wR m 1000 w0 st vp p 7 0 ⟨#[]⟩ ⟨#[]⟩ ⟨#[]⟩ ⟨#[]⟩ ⟨⟨#[]⟩,[],[]⟩ [] yk2 vc dO vl vk w hin hR (.inl rfl) (by omega) (fun y hy=>by
   obtain rfl:=List.mem_singleton.1 hy;exact jc2 m w0) (fun y _=>AA 1000 (by decide) y) (by omega)) (fun x _=>jR 1000 (by decide) x)
theorem jc4 (m:Nat) (w0:js1):gV m 1000 w0 Vh:=
 q1z m 1000 w0 Vh (fun x hx=>by
  obtain rfl:=List.mem_singleton.1 hx;exact fun vc dO vl vk hR st vp p w hin=>Ay m 1000 w0 st vp p 0 ⟨#[]⟩ ⟨#[]⟩ ⟨#[]⟩ ⟨#[]⟩ ⟨⟨#[]⟩,[],[]⟩ [] yk3 vc dO vl vk w hin hR (jc3 m w0)) (fun x _=>jR 1000 (by decide) x)
theorem JR (id:ByteArray) (h:id.size<=300):At.short ⟨id,[],[]⟩:=⟨by simp,by simp,jp0 h (by decide),by simp,by simp⟩
theorem AY (t:ByteArray) (h:t.size<=300):aj.aG [Gx t]:=by
 have h1:=JR ⟨#[]⟩ (by decide);have h4:(⟨#[]⟩:ByteArray).size<=300:=by decide
 simp [Gx,aj.aG,aj.small,h1,h,h4]
theorem JU (t:ByteArray):aj.aX [Gx t]=1:=by simp [Gx,aj.aX,aj.sz]
theorem qW (k lv:Int) (id:ByteArray) (li:List aj) (ks:List ah) (hi:id.size<=300) (h:aj.aG li) (h1:aj.aX li<=120) (h2:ah.aG ks):ah.aG [LV k lv id li ks]:=by
 have h3:=JR id hi;have h4:(⟨#[]⟩:ByteArray).size<=300:=by decide
 simp [LV,ah.aG,ah.small,h1,h2,h3,h4,h]
theorem Ph (t:ByteArray) (h:t.size<=300):ah.aG [YV t]:=qW 1 0 _ _ _ (by decide) (AY t h) (by rw [JU];decide) (by rw [ah.aG];trivial)
theorem Vi (t:ByteArray):aj.l9 [Gx t]:=by simp [Gx,aj.l9,aj.bd]
theorem Pj (k lv:Int) (id:ByteArray) (li:List aj) (ks:List ah) (h:aj.l9 li) (h1:aj.aX li<=120) (h2:ah.l9 ks):ah.l9 [LV k lv id li ks]:=by
 have h3:aj.aX li<=1000000:=by omega
 simp [LV,ah.l9,ah.bd,h,h2,h3]
theorem Pk (t:ByteArray):ah.l9 [YV t]:=Pj 1 0 _ _ _ (Vi t) (by rw [JU];decide) (by rw [ah.l9];trivial)
theorem pG:aj.aG []:=by rw [aj.aG];trivial
theorem Cx:aj.l9 []:=by rw [aj.l9];trivial
theorem EY (x y:ah) (h1:ah.aG [x]) (h2:ah.aG [y]):ah.aG [x,y]:=by rw [ah.aG] at h1 ⊢;exact ⟨h1.1,h2⟩
theorem Pm (x y:ah) (h1:ah.l9 [x]) (h2:ah.l9 [y]):ah.l9 [x,y]:=by rw [ah.l9] at h1 ⊢;exact ⟨h1.1,h2⟩
def YZ (_:ByteArray):Bool:=true
theorem Td (w:js1) (ab:Option Addr) (nb cb:Nat) (h:Rd (·<w.heap.size) w (om XC) [.slice ab nb cb]) (ht:TabAt w) (hml:oh w) : Calls Tryz.prog 20 #[.agg #[.slice none 0 0,.slice ab nb cb],.int .i64 1000] w (OfB (QZ,0) w):=by
 have e:LD YZ 1000 [] XC=(QZ,0):=jb9;rw [<- e];exact qR YZ 1000 [] XC none ab 0 nb cb w (by decide) (by simp) (by simp) (by decide +kernel) (ah.gK _ (EY _ _ (qW 2 1 _ _ _ (by decide) (AY _ (by decide)) (by rw [JU];decide) (by rw [ah.aG];trivial)) (Ph _ (by decide)))) (fun e=>absurd e (by decide +kernel))
  (Pm _ _ (Pj 2 1 _ _ _ (Vi _) (by rw [JU];decide) (by rw [ah.l9];trivial)) (Pk _)) (by decide +kernel) (by decide +kernel) (by decide +kernel) (Rd.aR _ _ _) h (fun _ _ wz _=>jc0 _ wz) ht hml
theorem Tf (w:js1) (ab:Option Addr) (nb cb:Nat) (h:Rd (·<w.heap.size) w (om Vh) [.slice ab nb cb]) (ht:TabAt w) (hml:oh w) : Calls Tryz.prog 20 #[.agg #[.slice none 0 0,.slice ab nb cb],.int .i64 1000] w (OfB (YW,0) w):=by
 have e:LD YZ 1000 [] Vh=(YW,0):=jbj;rw [<- e];have z:aj.aX []<=120:=by decide +kernel
 exact qR YZ 1000 [] Vh none ab 0 nb cb w (by decide) (by simp) (by simp) (by decide +kernel) (ah.gK _ (qW 6 0 _ _ _ (by decide) pG z (qW 7 0 _ _ _ (by decide) pG z (qW 9 0 _ _ _ (by decide) pG z (Ph _ (by decide)))))) (fun e=>absurd e (by decide +kernel))
  (Pj 6 0 _ _ _ Cx z (Pj 7 0 _ _ _ Cx z (Pj 9 0 _ _ _ Cx z (Pk _)))) (by decide +kernel) (by decide +kernel) (by decide +kernel) (Rd.aR _ _ _) h (fun _ _ wz _=>jc4 _ wz) ht hml
theorem Tg (w:js1) (ab:Option Addr) (nb cb:Nat) (h:Rd (·<w.heap.size) w (om XD) [.slice ab nb cb]) (ht:TabAt w) (hml:oh w) : Calls Tryz.prog 20 #[.agg #[.slice none 0 0,.slice ab nb cb],.int .i64 85] w (OfB (YX,0) w):=by have e:LD YZ 85 [] XD=(YX,0):=jbk;rw [<- e];exact qR YZ 85 [] XD none ab 0 nb cb w (by decide) (by simp) (by simp) (by decide +kernel) (ah.gK _ (Ph _ (by decide))) (fun e=>absurd e (by decide +kernel)) (Pk _) (by decide +kernel) (by decide +kernel) (by decide +kernel) (Rd.aR _ _ _) h (fun _ _ wz _=>jc1 _ wz) ht hml
open Go.RowKit
def yQ (p:Nat):List js3:=mg 1 0 ⟨#[]⟩ (.slice (some ⟨p,0,none⟩) 1 1) (.slice none 0 0)
def Pn (t:ByteArray) (w:js1) (e:Ending) (w':js1):Prop:=
 ∃ p,e=.returned (.agg (yQ p).toArray)/\w.heap.size<=p/\CB 43 p (yE t) w'/\js2 w.heap.size w w'
theorem jc5 (t:ByteArray) (w:js1):∃ S W1,S=w.heap.size/\W1=(w.alloc (.cells (mg 0 0 ⟨#[]⟩ (.slice none 0 0) (.slice none 0 0)).toArray 40)).alloc (.cells (yE t).toArray 43)/\CB 40 S (mg 0 0 ⟨#[]⟩ (.slice none 0 0) (.slice none 0 0)) W1 /\ CB 40 S (yQ (S+1)) (xq W1 S 0 (yQ (S+1)))/\Pn t w (.returned (.agg (yQ (S+1)).toArray)) (xq W1 S 0 (yQ (S+1))):=by
 obtain ⟨S,hS⟩:∃ S,S=w.heap.size:=⟨_,rfl⟩;obtain ⟨W1,hW⟩:∃ W1,W1=(w.alloc (.cells (mg 0 0 ⟨#[]⟩ (.slice none 0 0) (.slice none 0 0)).toArray 40)).alloc (.cells (yE t).toArray 43):=⟨_,rfl⟩;have z:(w.alloc (.cells (mg 0 0 ⟨#[]⟩ (.slice none 0 0) (.slice none 0 0)).toArray 40)).heap.size=S+1:=by rw [jpq,hS]
 have k0:CB 40 S (mg 0 0 ⟨#[]⟩ (.slice none 0 0) (.slice none 0 0)) W1:=by rw [hW,hS];exact (CB.new _ _ w).below ((jox _ _).alloc (joz _) _)
 have k1:CB 43 (S+1) (yE t) W1:=by rw [hW,<- z];exact CB.new _ _ _
 have b1:js2 w.heap.size w W1:=by rw [hW];exact ((jox _ _).alloc (joz _) _).alloc (by rw [z];omega) _
 refine ⟨S,W1,hS,hW,k0,?_,S+1,rfl,by omega,(xu S _ _ _ _ (by omega)).trans k1,?_⟩
 ·exact rY (rY (rY (rY (rY (rY (rY (rY (rY (rY (rY k0 0 _) 1 _) 2 _) 3 _) 4 _) 5 _) 6 _) 7 _) 8 _) 9 _) 10 _
 ·have hs:=Nat.le_of_eq hS.symm;exact ((((((((((b1.setCell (p:=⟨S,0,none⟩) hs _).setCell (p:=⟨S,1,none⟩) hs _).setCell (p:=⟨S,2,none⟩) hs _).setCell (p:=⟨S,3,none⟩) hs _).setCell (p:=⟨S,4,none⟩) hs _).setCell (p:=⟨S,5,none⟩) hs _).setCell (p:=⟨S,6,none⟩) hs _).setCell (p:=⟨S,7,none⟩) hs _).setCell (p:=⟨S,8,none⟩) hs _).setCell (p:=⟨S,9,none⟩) hs _).setCell (p:=⟨S,10,none⟩) hs _
theorem Ih (t:ByteArray) (w:js1):Calls Tryz.prog 48 #[.string t] w (Pn t w):=by
 obtain ⟨S,W1,hS,hW,k0,k1,hP⟩:=jc5 t w;obtain ⟨w9,Hq⟩:∃ w9,w9=xq W1 S 0 (yQ (S+1)):=⟨_,rfl⟩;obtain ⟨w0,hw0⟩:∃ w0,w0=w.alloc (.cells (mg 0 0 ⟨#[]⟩ (.slice none 0 0) (.slice none 0 0)).toArray 40):=⟨_,rfl⟩;have z0:w0.heap.size=S+1:=by rw [hw0,jpq,hS]
 rw [<- Hq] at k1 hP;rw [<- hw0] at hW;have HP:=Lib.hid hP;have K1:=Lib.hid k1;have HZ:=Lib.hid z0;have r0:=k0.cell 0 _ rfl;have r1:=k0.cell 1 _ rfl;have r2:=k0.cell 2 _ rfl;have r3:=k0.cell 3 _ rfl;have r4:=k0.cell 4 _ rfl;have r5:=k0.cell 5 _ rfl;have r6:=k0.cell 6 _ rfl;have r7:=k0.cell 7 _ rfl;have r8:=k0.cell 8 _ rfl;have r9:=k0.cell 9 _ rfl;have r10:=k0.cell 10 _ rfl;have g0:=tN k0 0;have g1:=tN k0 1;have g2:=tN k0 2;have g3:=tN k0 3;have g4:=tN k0 4;have g5:=tN k0 5;have g6:=tN k0 6;have g7:=tN k0 7;have g8:=tN k0 8;have g9:=tN k0 9;have g10:=tN k0 10;simp only [yQ,mg,xq] at Hq;simp only [yE] at hW;subst hW;simp only [mg] at hw0;clear hP k0 k1 z0;go_enter Tryz.func48,Tryz.ntmps48;go_upto_region 1 with (fail)
 rw [<- hw0,<- hS];clear hw0 hS;go_wp2;simp only [HZ.out];rw [<- Hq];clear Hq r0 r1 r2 r3 r4 r5 r6 r7 r8 r9 r10;have r0:=K1.out.cell 0 _ rfl;have r1:=K1.out.cell 1 _ rfl;have r2:=K1.out.cell 2 _ rfl;have r3:=K1.out.cell 3 _ rfl;have r4:=K1.out.cell 4 _ rfl;have r5:=K1.out.cell 5 _ rfl;have r6:=K1.out.cell 6 _ rfl;have r7:=K1.out.cell 7 _ rfl;have r8:=K1.out.cell 8 _ rfl;have r9:=K1.out.cell 9 _ rfl;have r10:=K1.out.cell 10 _ rfl;exact bodyPost_ret (v:=.agg (yQ (S+1)).toArray) (by simp [yQ,mg,results,Tryz.results48,go_sem,r0,r1,r2,r3,r4,r5,r6,r7,r8,r9,r10]) rfl HP.out
open Go.RowKit
theorem Cq {ok:Nat->Prop} {w:js1} {d:D} {cs:List js3} (h:Rd ok w d cs):Rd (·<w.heap.size) w d cs:=Rd.keep (fun b _ hlt=>⟨hlt,rfl⟩) _ _ h
theorem Ti (w5:js1) (p:Nat) (k:CB 43 p (yE ⟨#[97]⟩) w5):∃ w9 Gy,w9=(((w5.alloc (.cells (yQ p).toArray 40)).alloc (.cells (mg 9 0 ⟨#[]⟩ (.slice none 0 0) (.slice (some ⟨w5.heap.size,0,none⟩) 1 1)).toArray 40)).alloc (.cells (mg 7 0 ⟨#[]⟩ (.slice none 0 0) (.slice (some ⟨w5.heap.size+1,0,none⟩) 1 1)).toArray 40)).alloc (.cells (mg 6 0 ⟨#[]⟩ (.slice none 0 0) (.slice (some ⟨w5.heap.size+1+1,0,none⟩) 1 1)).toArray 40) /\ Gy=w9.alloc (.cells (mg 6 0 ⟨#[]⟩ (.slice none 0 0) (.slice (some ⟨w5.heap.size+1+1,0,none⟩) 1 1)).toArray 40)/\w9.heap.size=w5.heap.size+1+1+1+1/\CB 40 (w5.heap.size+1+1+1) (mg 6 0 ⟨#[]⟩ (.slice none 0 0) (.slice (some ⟨w5.heap.size+1+1,0,none⟩) 1 1)) w9/\js2 w5.heap.size w5 w9/\js2 w5.heap.size w5 Gy /\ Rd (·<Gy.heap.size) Gy (om Vh) [.slice (some ⟨w9.heap.size,0,none⟩) 1 1]:=by
 obtain ⟨w6,y8⟩:∃ w6,w6=w5.alloc (.cells (yQ p).toArray 40):=⟨_,rfl⟩;have z6:w6.heap.size=w5.heap.size+1:=by rw [y8,jpq]
 obtain ⟨w7,hw7⟩:∃ w7,w7=w6.alloc (.cells (mg 9 0 ⟨#[]⟩ (.slice none 0 0) (.slice (some ⟨w5.heap.size,0,none⟩) 1 1)).toArray 40):=⟨_,rfl⟩;have z7:w7.heap.size=w5.heap.size+1+1:=by rw [hw7,jpq,z6]
 obtain ⟨w8,hw8⟩:∃ w8,w8=w7.alloc (.cells (mg 7 0 ⟨#[]⟩ (.slice none 0 0) (.slice (some ⟨w5.heap.size+1,0,none⟩) 1 1)).toArray 40):=⟨_,rfl⟩;have z8:w8.heap.size=w5.heap.size+1+1+1:=by rw [hw8,jpq,z7]
 obtain ⟨w9,Hq⟩:∃ w9,w9=w8.alloc (.cells (mg 6 0 ⟨#[]⟩ (.slice none 0 0) (.slice (some ⟨w5.heap.size+1+1,0,none⟩) 1 1)).toArray 40):=⟨_,rfl⟩;have z9:w9.heap.size=w5.heap.size+1+1+1+1:=by rw [Hq,jpq,z8]
 obtain ⟨Gy,Ii⟩:∃ Gy,Gy=w9.alloc (.cells (mg 6 0 ⟨#[]⟩ (.slice none 0 0) (.slice (some ⟨w5.heap.size+1+1,0,none⟩) 1 1)).toArray 40):=⟨_,rfl⟩;have b6:js2 w5.heap.size w5 w6:=by rw [y8];exact (jox _ _).alloc (joz _) _
 have b7:js2 w6.heap.size w6 w7:=by rw [hw7];exact (jox _ _).alloc (joz _) _
 have b8:js2 w7.heap.size w7 w8:=by rw [hw8];exact (jox _ _).alloc (joz _) _
 have b9:js2 w8.heap.size w8 w9:=by rw [Hq];exact (jox _ _).alloc (joz _) _
 have b10:js2 w9.heap.size w9 Gy:=by rw [Ii];exact (jox _ _).alloc (joz _) _
 have k6:CB 40 w5.heap.size (yQ p) w6:=by rw [y8];exact CB.new _ _ _
 have k7:CB 40 (w5.heap.size+1) (mg 9 0 ⟨#[]⟩ (.slice none 0 0) (.slice (some ⟨w5.heap.size,0,none⟩) 1 1)) w7:=by rw [hw7,<- z6];exact CB.new _ _ _
 have k8:CB 40 (w5.heap.size+1+1) (mg 7 0 ⟨#[]⟩ (.slice none 0 0) (.slice (some ⟨w5.heap.size+1,0,none⟩) 1 1)) w8:=by rw [hw8,<- z7];exact CB.new _ _ _
 have k9:CB 40 (w5.heap.size+1+1+1) (mg 6 0 ⟨#[]⟩ (.slice none 0 0) (.slice (some ⟨w5.heap.size+1+1,0,none⟩) 1 1)) w9:=by rw [Hq,<- z8];exact CB.new _ _ _
 have k10:CB 40 w9.heap.size (mg 6 0 ⟨#[]⟩ (.slice none 0 0) (.slice (some ⟨w5.heap.size+1+1,0,none⟩) 1 1)) Gy:=by rw [Ii];exact CB.new _ _ _
 have jc6:=aP (aP (aP (aP b6 b7) b8) b9) b10;have h1:Rd (fun _=>True) Gy (om yk1) [.slice (some ⟨w5.heap.size,0,none⟩) 1 1]:=EW (pF 1 0 _ (Cv (k.below jc6) _ trivial) (Rd.aR _ _ _)) rfl ((((k6.below b7).below b8).below b9).below b10) trivial;have h2:Rd (fun _=>True) Gy (om yk2) [.slice (some ⟨w5.heap.size+1,0,none⟩) 1 1]:=EW (pF 9 0 _ (Rd.aR _ _ _) h1) rfl (((k7.below b8).below b9).below b10) trivial;have h3:Rd (fun _=>True) Gy (om yk3) [.slice (some ⟨w5.heap.size+1+1,0,none⟩) 1 1]:=EW (pF 7 0 _ (Rd.aR _ _ _) h2) rfl ((k8.below b9).below b10) trivial;have h4:Rd (fun _=>True) Gy (om Vh) [.slice (some ⟨w9.heap.size,0,none⟩) 1 1]:=EW (pF 6 0 _ (Rd.aR _ _ _) h3) rfl k10 trivial;exact ⟨w9,Gy,by rw [Hq,hw8,hw7,y8],Ii,z9,k9,aP (aP (aP b6 b7) b8) b9,jc6,Cq h4⟩
theorem XF {ok:Nat->Prop} {w:js1} {v:js3} (h:Rd ok w (.sl 6 (QZ.map Bx.d)) [v]):∃ b off c aa ca,v=.slice (some ⟨b,off,none⟩) 2 c/\2<=c/\c<=9223372036854775807 /\ ∀ w',js2 w.heap.size w w'->(w'.cell? ⟨b,off,none⟩=some (.string ⟨#[65]⟩)/\w'.cell? ⟨b,off+1,none⟩=some (.int .i64 2)/\w'.cell? ⟨b,off+3,none⟩=some (.bool true)/\w'.cell? ⟨b,off+5,none⟩=some (.slice aa 1 ca)/\w'.cell? ⟨b,off+6+2,none⟩=some (.int .i64 1)):=by
 obtain ⟨a,c,hv,hs⟩:=Rd.aC h;obtain rfl:v=.slice a 2 c:=by simpa [QZ] using hv
 obtain ⟨b,off,va,rfl,-,-,⟨c0,c1,c2,c3,c4,c5⟩,hva⟩:=mQ hs (k:=0) rfl;obtain ⟨b',off',zn,ha,-,-,⟨d0,d1,d2,d3,d4,d5⟩,-⟩:=mQ hs (k:=1) rfl;obtain ⟨rfl,rfl⟩:b=b'/\off=off':=by simpa using ha
 obtain ⟨aa,ca,hvv,hsa⟩:=Rd.aC hva;obtain rfl:va=.slice aa 1 ca:=by simpa using hvv
 simp only [Nat.zero_mul,Nat.add_zero,Nat.one_mul] at c0 c1 c3 c5 d2;have h1:=hs.le;have h2:=hs.max;unfold maxLen at h2;simp [QZ] at h1;refine ⟨b,off,c,aa,ca,rfl,h1,by omega,fun w' hb=>?_⟩;have e1:∀ j x,w.cell? ⟨b,j,none⟩=some x->w'.cell? ⟨b,j,none⟩=some x:=fun j x e=>by rw [hb.cell (p:=⟨b,j,none⟩) (jY e)];exact e
 exact ⟨e1 _ _ c0,e1 _ _ c1,e1 _ _ c3,e1 _ _ c5,e1 _ _ d2⟩
theorem XG {ok:Nat->Prop} {w:js1} {v:js3} (h:Rd ok w (.sl 6 (YW.map Bx.d)) [v]):∃ b off c,v=.slice (some ⟨b,off,none⟩) 1 c/\1<=c/\c<=9223372036854775807 /\ ∀ w',js2 w.heap.size w w'->(w'.cell? ⟨b,off,none⟩=some (.string ⟨#[62,32,45,32,97]⟩)):=by
 obtain ⟨a,c,hv,hs⟩:=Rd.aC h;obtain rfl:v=.slice a 1 c:=by simpa [YW] using hv
 obtain ⟨b,off,va,rfl,-,-,⟨c0,c1,c2,c3,c4,c5⟩,hva⟩:=mQ hs (k:=0) rfl;simp only [Nat.zero_mul,Nat.add_zero] at c0;have h1:=hs.le;have h2:=hs.max;unfold maxLen at h2;simp [YW] at h1;refine ⟨b,off,c,rfl,h1,by omega,fun w' hb=>?_⟩;rw [hb.cell (p:=⟨b,off,none⟩) (jY c0)];exact c0
theorem XH {ok:Nat->Prop} {w:js1} {v:js3} (h:Rd ok w (.sl 6 (YX.map Bx.d)) [v]):∃ b off c,v=.slice (some ⟨b,off,none⟩) 3 c/\3<=c/\c<=9223372036854775807 /\ ∀ w',js2 w.heap.size w w'->(w'.cell? ⟨b,off+3,none⟩=some (.bool true)/\w'.cell? ⟨b,off+6+3,none⟩=some (.bool true)/\w'.cell? ⟨b,off+12+3,none⟩=some (.bool false)):=by
 obtain ⟨a,c,hv,hs⟩:=Rd.aC h;obtain rfl:v=.slice a 3 c:=by simpa [YX] using hv
 obtain ⟨b,off,va,rfl,-,-,⟨c0,c1,c2,c3,c4,c5⟩,hva⟩:=mQ hs (k:=0) rfl;obtain ⟨b',off',zn,ha,-,-,⟨d0,d1,d2,d3,d4,d5⟩,-⟩:=mQ hs (k:=1) rfl;obtain ⟨rfl,rfl⟩:b=b'/\off=off':=by simpa using ha
 obtain ⟨b',off',zn,ha,-,-,⟨e0,e1,e2,e3,e4,e5⟩,-⟩:=mQ hs (k:=2) rfl;obtain ⟨rfl,rfl⟩:b=b'/\off=off':=by simpa using ha
 simp only [Nat.zero_mul,Nat.add_zero,Nat.one_mul,show 2*6=12 from rfl] at c3 d3 e3;have h1:=hs.le;have h2:=hs.max;unfold maxLen at h2;simp [YX] at h1;refine ⟨b,off,c,rfl,h1,by omega,fun w' hb=>?_⟩;have f:∀ j x,w.cell? ⟨b,j,none⟩=some x->w'.cell? ⟨b,j,none⟩=some x:=fun j x e=>by rw [hb.cell (p:=⟨b,j,none⟩) (jY e)];exact e
 exact ⟨f _ _ c3,f _ _ d3,f _ _ e3⟩
theorem Po:∀ x∈QZ,x.fine:=by
 intro x hx;simp [QZ] at hx;rcases hx with rfl | rfl
 ·exact ⟨by decide,by decide,fun s hs=>by simp at hs;subst hs;decide⟩
 ·exact ⟨by decide,by decide,fun s hs=>by simp at hs⟩
theorem Pp:∀ x∈[(⟨⟨#[]⟩,0,0,false,false,[]⟩:Bx)],x.fine:=by intro x hx;simp at hx;subst hx;exact ⟨by decide,by decide,fun s hs=>by simp at hs⟩
theorem Sz (w:js1) (ht:TabAt w) (hml:oh w):Calls Tryz.prog 19 #[] w (gu (.bool true) w):=by
 obtain ⟨S,hS⟩:∃ S,S=w.heap.size:=⟨_,rfl⟩;obtain ⟨wa,zq⟩:∃ wa,wa=w.alloc (.cells (yE ⟨#[65]⟩).toArray 43):=⟨_,rfl⟩;have za:wa.heap.size=S+1:=by rw [zq,jpq,hS]
 obtain ⟨w1,hw1⟩:∃ w1,w1=wa.alloc (.cells (mg 2 1 ⟨#[97]⟩ (.slice (some ⟨S,0,none⟩) 1 1) (.slice none 0 0)).toArray 40):=⟨_,rfl⟩;have ka:CB 43 S (yE ⟨#[65]⟩) wa:=by rw [zq,hS];exact CB.new _ _ _
 have k1:CB 40 (S+1) (mg 2 1 ⟨#[97]⟩ (.slice (some ⟨S,0,none⟩) 1 1) (.slice none 0 0)) w1:=by rw [hw1,<- za];exact CB.new _ _ _
 have ba:js2 w.heap.size w wa:=by rw [zq];exact (jox _ _).alloc (joz _) _
 have b1:js2 wa.heap.size wa w1:=by rw [hw1];exact (jox _ _).alloc (joz _) _
 have B1:=Lib.hid (aP ba b1);have KH:=Lib.hid k1;have KI:=Lib.hid (ka.below b1);have HT:=Lib.hid ht;have HM:=Lib.hid hml;have TX1:=Lib.hid (fun w=>Ih ⟨#[98]⟩ w);have TX2:=Lib.hid (fun w=>Ih ⟨#[97]⟩ w);have TX3:=Lib.hid (fun w=>Ih ⟨#[109,32,109,32,109]⟩ w);have SS:(fun w'=>CB 40 (S+1) (mg 2 1 ⟨#[97]⟩ (.slice (some ⟨S,0,none⟩) 1 1) (.slice none 0 0)) w') w1.drew:=k1;rw [hS] at SS KH KI;simp only [yE] at zq;simp only [mg,hS] at hw1;subst zq;clear hS ka k1 ba b1 ht hml za;go_enter Tryz.func19,Tryz.ntmps19;go_wp2_with fail
 rw [<- hw1];clear hw1;refine gW 9 (fun w'=>CB 40 (w.heap.size+1) (mg 2 1 ⟨#[97]⟩ (.slice (some ⟨w.heap.size,0,none⟩) 1 1) (.slice none 0 0)) w') (by kernel_rfl) SS ?_;intro hH;refine gI 0 rfl (by kernel_rfl) hH (by rfl) (by intro wv hSw;(have d0:=CB.cell hSw 0 _ rfl;have d1:=CB.cell hSw 1 _ rfl;have d2:=CB.cell hSw 2 _ rfl;have d3:=CB.cell hSw 3 _ rfl;have d4:=CB.cell hSw 4 _ rfl;have d5:=CB.cell hSw 5 _ rfl;have d6:=CB.cell hSw 6 _ rfl;have d7:=CB.cell hSw 7 _ rfl;have d8:=CB.cell hSw 8 _ rfl;have d9:=CB.cell hSw 9 _ rfl;have d10:=CB.cell hSw 10 _ rfl);go_simp;try with_reducible rfl) ?_;try simp only [Act.put,jo9,joj,jok]
 refine Gu (i:=1) rfl (by kernel_rfl) (fun KQ hK=>?_);go_simp;go_at_call 48
 (with_reducible refine (TX1.out _).mono ?_)
 rintro e w2 ⟨p2,rfl,hp2,kp2,b2⟩;have B2:=Lib.hid (B1.out.drew.trans (b2.mono B1.out.size));have KH2:=Lib.hid (KH.out.below ((jox _ w1).drew.trans b2));have KI2:=KI.out.below ((jox _ w1).drew.trans b2);obtain ⟨s2,hs2⟩:∃ s2,s2=w2.heap.size:=⟨_,rfl⟩;obtain ⟨w3,hw3⟩:∃ w3,w3=w2.alloc (.cells ((mg 2 1 ⟨#[97]⟩ (.slice (some ⟨w.heap.size,0,none⟩) 1 1) (.slice none 0 0))++yQ p2).toArray 40):=⟨_,rfl⟩;have k3:CB 40 s2 ((mg 2 1 ⟨#[97]⟩ (.slice (some ⟨w.heap.size,0,none⟩) 1 1) (.slice none 0 0))++yQ p2) w3:=by rw [hw3,hs2];exact CB.new _ _ _
 have b3:js2 w2.heap.size w2 w3:=by rw [hw3];exact (jox _ _).alloc (joz _) _
 have hd1:Rd (fun _=>True) w3 (om XC) [.slice (some ⟨s2,0,none⟩) 2 2]:=jbz (pF 2 1 _ (Cv (KI2.below b3) _ trivial) (Rd.aR _ _ _)) rfl (pF 1 0 _ (Cv (kp2.below b3) _ trivial) (Rd.aR _ _ _)) rfl k3 trivial;have B3:=Lib.hid (aP B2.out b3);have OF1:=Lib.hid (Td w3 _ _ _ (Cq hd1) (HT.out.below B3.out) (HM.out.below B3.out));have KH3:=Lib.hid (KH2.out.below b3);simp only [mg,yQ,List.cons_append,List.nil_append] at hw3;clear hp2 kp2 b2 KI2 k3 b3 hd1;refine hK.out _ _ (fun _ _=>KH2.out) (fun hH2=>?_);clear hK KQ hH;have hH:=hH2 (by decide) (by kernel_rfl);clear hH2;try simp only [Act.put,jo9,joj,jok]
 try simp only [Act.put,jo9,joj,jok]
 refine Gu (i:=2) rfl (by kernel_rfl) (fun KQ hK=>?_);simp only [yQ,mg];go_simp;rw [<- hw3,<- hs2];clear hw3 hs2;refine hK.out _ _ (fun _ _=>KH3.out) (fun hH2=>?_);clear hK KQ hH;have hH:=hH2 (by decide) (by kernel_rfl);clear hH2;try simp only [Act.put,jo9,joj,jok]
 refine gI 3 rfl (by kernel_rfl) hH (by rfl) (by intro wv hSw;(have d0:=CB.cell hSw 0 _ rfl;have d1:=CB.cell hSw 1 _ rfl;have d2:=CB.cell hSw 2 _ rfl;have d3:=CB.cell hSw 3 _ rfl;have d4:=CB.cell hSw 4 _ rfl;have d5:=CB.cell hSw 5 _ rfl;have d6:=CB.cell hSw 6 _ rfl;have d7:=CB.cell hSw 7 _ rfl;have d8:=CB.cell hSw 8 _ rfl;have d9:=CB.cell hSw 9 _ rfl;have d10:=CB.cell hSw 10 _ rfl);go_simp;try with_reducible rfl) ?_;try simp only [Act.put,jo9,joj,jok]
 refine Gu (i:=4) rfl (by kernel_rfl) (fun KQ hK=>?_);go_simp;go_at_call 20
 (with_reducible refine OF1.out.mono ?_)
 rintro e w4 ⟨v1,rfl,hr1,b4⟩;have B4:=Lib.hid (aP B3.out b4);have KH4:=Lib.hid (KH3.out.below b4);have HR1:=Lib.hid (Cq hr1);clear hr1 b4;refine hK.out _ _ (fun _ _=>KH4.out) (fun hH2=>?_);clear hK KQ hH;have hH:=hH2 (by decide) (by kernel_rfl);clear hH2;try simp only [Act.put,jo9,joj,jok]
 refine gI 5 rfl (by kernel_rfl) hH (by rfl) (by intro wv hSw;(have d0:=CB.cell hSw 0 _ rfl;have d1:=CB.cell hSw 1 _ rfl;have d2:=CB.cell hSw 2 _ rfl;have d3:=CB.cell hSw 3 _ rfl;have d4:=CB.cell hSw 4 _ rfl;have d5:=CB.cell hSw 5 _ rfl;have d6:=CB.cell hSw 6 _ rfl;have d7:=CB.cell hSw 7 _ rfl;have d8:=CB.cell hSw 8 _ rfl;have d9:=CB.cell hSw 9 _ rfl;have d10:=CB.cell hSw 10 _ rfl);go_simp;try with_reducible rfl) ?_;refine gI 6 rfl (by kernel_rfl) hH (by rfl) (by intro wv hSw;(have d0:=CB.cell hSw 0 _ rfl;have d1:=CB.cell hSw 1 _ rfl;have d2:=CB.cell hSw 2 _ rfl;have d3:=CB.cell hSw 3 _ rfl;have d4:=CB.cell hSw 4 _ rfl;have d5:=CB.cell hSw 5 _ rfl;have d6:=CB.cell hSw 6 _ rfl;have d7:=CB.cell hSw 7 _ rfl;have d8:=CB.cell hSw 8 _ rfl;have d9:=CB.cell hSw 9 _ rfl;have d10:=CB.cell hSw 10 _ rfl);go_simp;try with_reducible rfl) ?_;refine gI 7 rfl (by kernel_rfl) hH (by rfl) (by intro wv hSw;(have d0:=CB.cell hSw 0 _ rfl;have d1:=CB.cell hSw 1 _ rfl;have d2:=CB.cell hSw 2 _ rfl;have d3:=CB.cell hSw 3 _ rfl;have d4:=CB.cell hSw 4 _ rfl;have d5:=CB.cell hSw 5 _ rfl;have d6:=CB.cell hSw 6 _ rfl;have d7:=CB.cell hSw 7 _ rfl;have d8:=CB.cell hSw 8 _ rfl;have d9:=CB.cell hSw 9 _ rfl;have d10:=CB.cell hSw 10 _ rfl);go_simp;try with_reducible rfl) ?_;refine gI 8 rfl (by kernel_rfl) hH (by rfl) (by intro wv hSw;(have d0:=CB.cell hSw 0 _ rfl;have d1:=CB.cell hSw 1 _ rfl;have d2:=CB.cell hSw 2 _ rfl;have d3:=CB.cell hSw 3 _ rfl;have d4:=CB.cell hSw 4 _ rfl;have d5:=CB.cell hSw 5 _ rfl;have d6:=CB.cell hSw 6 _ rfl;have d7:=CB.cell hSw 7 _ rfl;have d8:=CB.cell hSw 8 _ rfl;have d9:=CB.cell hSw 9 _ rfl;have d10:=CB.cell hSw 10 _ rfl);go_simp;try with_reducible rfl) ?_;try simp only [Act.put,jo9,joj,jok]
 refine Gu (i:=9) rfl (by kernel_rfl) (fun KQ hK=>?_);go_simp;refine hK.out _ _ (fun h _=>absurd rfl h) (fun _=>?_);clear hK KQ;refine gX (by kernel_rfl) ?_ _;go_wp2_with fail
 (with_reducible refine (TX2.out _).mono ?_)
 rintro e w5 ⟨p5,rfl,hp5,kp5,b5⟩;obtain ⟨w9,Gy,Hq,Ii,z9,k9,b9,b10,jc7⟩:=Ti w5 p5 kp5;have B5:=Lib.hid (aP B4.out b5);have B45:=Lib.hid b5;have B9:=Lib.hid b9;have B10:=Lib.hid b10;have OF2:=Lib.hid (Tf Gy _ _ _ jc7 (HT.out.below (aP B5.out b10)) (HM.out.below (aP B5.out b10)));have K9:=Lib.hid k9;obtain ⟨s5,hs5⟩:∃ s5,s5=w5.heap.size:=⟨_,rfl⟩;have HZ9:=Lib.hid z9;have r0:=K9.out.cell 0 _ rfl;have r1:=K9.out.cell 1 _ rfl;have r2:=K9.out.cell 2 _ rfl;have r3:=K9.out.cell 3 _ rfl;have r4:=K9.out.cell 4 _ rfl;have r5:=K9.out.cell 5 _ rfl;have r6:=K9.out.cell 6 _ rfl;have r7:=K9.out.cell 7 _ rfl;have r8:=K9.out.cell 8 _ rfl;have r9:=K9.out.cell 9 _ rfl;have r10:=K9.out.cell 10 _ rfl;simp only [yQ,mg] at Hq Ii;clear hp5 kp5 b5 k9 b9 b10 jc7 z9;simp only [yQ,mg];go_upto_region 4 with (fail)
 rw [<- Hq];clear Hq hs5;go_wp2_with fail
 rw [<- Ii];clear Ii r0 r1 r2 r3 r4 r5 r6 r7 r8 r9 r10
 (with_reducible refine OF2.out.mono ?_)
 rintro e w11 ⟨v2,rfl,hr2,b11⟩;have B11:=Lib.hid (aP (aP B5.out B10.out) b11);have jj6:=Lib.hid (aP (aP B45.out B10.out) b11);have HR2:=Lib.hid (Cq hr2);clear hr2 b11 OF2 OF1 TX2;go_wp2_with fail
 (with_reducible refine (TX3.out _).mono ?_)
 rintro e w12 ⟨p12,rfl,jj7,jc8,b12⟩;obtain ⟨Y0,Pq⟩:∃ Y0,Y0=w12.alloc (.cells (yQ p12).toArray 40):=⟨_,rfl⟩;have k13:CB 40 w12.heap.size (yQ p12) Y0:=by rw [Pq];exact CB.new _ _ _
 have b13:js2 w12.heap.size w12 Y0:=by rw [Pq];exact (jox _ _).alloc (joz _) _
 have hd3:Rd (fun _=>True) Y0 (om XD) [.slice (some ⟨w12.heap.size,0,none⟩) 1 1]:=EW (pF 1 0 _ (Cv (jc8.below b13) _ trivial) (Rd.aR _ _ _)) rfl k13 trivial;have B13:=Lib.hid (aP (aP B11.out b12) b13);have jc9:=Lib.hid (aP b12 b13);have OF3:=Lib.hid (Tg Y0 _ _ _ (Cq hd3) (HT.out.below B13.out) (HM.out.below B13.out));simp only [yQ,mg] at Pq;simp only [yQ,mg];clear jj7 jc8 b12 k13 b13 hd3 TX3;go_wp2_with fail
 rw [<- Pq];clear Pq
 (with_reducible refine OF3.out.mono ?_)
 rintro e w14 ⟨v3,rfl,hr3,b14⟩;have B14:=Lib.hid (aP B13.out b14);have Vj:=Lib.hid (aP jc9.out b14);have jcj:=Lib.hid (aP jj6.out Vj.out);have HR3:=Lib.hid (Cq hr3);clear hr3 b14 OF3;obtain ⟨q1,o1,c1,aa,ca,rfl,x1,y1,F1⟩:=XF HR1.out;obtain ⟨q2,o2,c2,rfl,x2,y2,F2⟩:=XG HR2.out;obtain ⟨q3,o3,c3,rfl,x3,y3,F3⟩:=XH HR3.out;obtain ⟨f0,f1,f2,f3,f4⟩:=F1 w14 jcj.out;have f5:=F2 w14 Vj.out;obtain ⟨f6,f7,f8⟩:=F3 w14 (jox _ _);have CK1:=Lib.hid (mR QZ _ w14 (HR1.out.up jcj.out) (fun x hx=>(Po x hx).to2));rw [jbq] at CK1;clear F1 F2 F3;go_wp2_with fail
 (with_reducible refine CK1.out.mono ?_)
 rintro e w15 ⟨rfl,b15⟩;obtain ⟨w16,hw16⟩:∃ w16,w16=w15.alloc (.cells (bG ⟨⟨#[]⟩,0,0,false,false,[]⟩).toArray 54):=⟨_,rfl⟩;have k16:CB 54 w15.heap.size (bG ⟨⟨#[]⟩,0,0,false,false,[]⟩) w16:=by rw [hw16];exact CB.new _ _ _
 have b16:js2 w15.heap.size w15 w16:=by rw [hw16];exact (jox _ _).alloc (joz _) _
 have hd:Rd (fun _=>True) w16 (.sl 6 ([(⟨⟨#[]⟩,0,0,false,false,[]⟩:Bx)].map Bx.d)) [.slice (some ⟨w15.heap.size,0,none⟩) 1 1]:=
  Rd.JQ (rows:=[bG ⟨⟨#[]⟩,0,0,false,false,[]⟩]) (by simp) (by unfold maxLen;decide) (aL.one (Bx.l6 ⟨⟨#[]⟩,0,0,false,false,[]⟩ (Rd.aR _ _ _))) (by simp [bG,tL]) trivial k16.lt (fun j u hu=>k16.cell j u (by simpa using hu))
 have CK2:=Lib.hid (mR _ _ w16 (Cq hd) (fun x hx=>(Pp x hx).to2));rw [jbx] at CK2;have B16:=Lib.hid (aP (aP B14.out b15) b16);simp only [bG,tL] at hw16;clear f0 f1 f2 f3 f4 f5 f6 f7 f8 b15 k16 b16 hd CK1;go_wp2_with fail
 rw [<- hw16];clear hw16
 (with_reducible refine CK2.out.mono ?_)
 rintro e w17 ⟨rfl,b17⟩;have B17:=Lib.hid (aP B16.out b17);clear b17;go_wp2;go_ret;exact ⟨rfl,B17.out⟩
end Go.Proofs.YtdneicipdlofiaaGreatDoor

