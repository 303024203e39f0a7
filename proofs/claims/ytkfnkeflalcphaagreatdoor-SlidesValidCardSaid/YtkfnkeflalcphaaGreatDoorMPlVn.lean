/- Plain facts of pages. -/
import Derived.Test.YtkfnkeflalcphaaGreatDoorMRpF
import Derived.Test.YtkfnkeflalcphaaGreatDoorMHtY
import Derived.Test.YtkfnkeflalcphaaGreatDoorMSpC
set_option maxHeartbeats 8000000
set_option maxRecDepth 100000
open Go.Lib (hid)
namespace Go.Proofs.YtkfnkeflalcphaaGreatDoor
open Tryz
open Go.RowKit.Below renaming refl->jK7
open Nat renaming le_refl->jK8,le_trans->jK9
open List renaming length_append->jKq,length_map->jKx,length_cons->jKz
open Go.World renaming size_alloc->jL5
open Go renaming World->jN9
open Go.RowKit renaming Below->jNj
open Go.RowKit
set_option linter.unusedVariables false
set_option linter.unusedSimpArgs false
def iQ (w:jN9) (E:Nat) (L:List Nd) (e:Ending) (w':jN9):Prop:=
 ∃ rows v,e=.returned (.tuple #[v,.int .i64 (E:Int)])/\aC 35 4 (fun _=>False) w'.heap.size w (L.map Nd.d) rows v w'
theorem iQ.nil {w w':jN9} {E:Nat} {L:List Nd} (hL:L=[]) (h:jNj w.heap.size w w'):iQ w E L (.returned (.tuple #[.slice none 0 0,.int .i64 (E:Int)])) w':=by subst hL;exact ⟨[],_,rfl,((aC.nil _ _ _ w).below h).top⟩
def Fh (l:List ah):Nat:=if ah.aQ fZ 0 0 l≠0 then ah.aQ fZ 0 0 l else if (ah.aJ l).any dG=true then 5 else 0
def bsN (l:List ah):List Nd:=if Fh l=0 then dL l else []
def G9 (me:List Pr) (l:List ah) (title lang:ByteArray):Nat:=
 if Ei fZ me l≠0 then Ei fZ me l else if cZ title=false then 17 else if dQ lang=false then 6 else if (ah.aJ l).any dG=true then 5 else 0
def nG:Nd:=.mk ⟨#[]⟩ ⟨#[]⟩ [] []
def pgN (me:List Pr) (l:List ah) (title lang:ByteArray):Nd:=if G9 me l title lang=0 then yH title lang (dL l) else nG
theorem WT {me:List Pr} {l:List ah} (h:Ei fZ me l=0):ah.aQ fZ 0 0 l=0:=by
 unfold Ei at h;split at h
 ·cases h
 ·split at h
  ·rename_i h1;exact absurd h h1
  ·exact h
theorem uQ {l:List ah} (h:Fh l=0):ah.aQ fZ 0 0 l=0/\(ah.aJ l).any dG=false:=by
 unfold Fh at h;split at h
 ·rename_i h1;exact absurd h h1
 ·rename_i h1
  split at h
  ·cases h
  ·rename_i h2
   exact ⟨Classical.not_not.1 h1,by simpa using h2⟩
theorem WU {me:List Pr} {l:List ah} {title lang:ByteArray} (h:G9 me l title lang=0):Ei fZ me l=0/\cZ title=true/\dQ lang=true/\(ah.aJ l).any dG=false:=by
 unfold G9 at h;split at h
 ·rename_i h1;exact absurd h h1
 ·rename_i h1
  split at h
  ·cases h
  ·rename_i h2
   split at h
   ·cases h
   ·rename_i h3
    split at h
    ·cases h
    ·rename_i h4
     exact ⟨Classical.not_not.1 h1,by simpa using h2,by simpa using h3,by simpa using h4⟩
theorem WV {me:List Pr} {l:List ah} {title lang:ByteArray} (h:G9 me l title lang=0):Fh l=0:=by obtain ⟨h1,-,-,h4⟩:=WU h;unfold Fh;rw [if_neg (by rw [WT h1];simp),h4];rfl
theorem RO (s:ByteArray):(((At.err ⟨⟨#[]⟩,[],[⟨⟨#[116,105,116,108,101]⟩,s⟩]⟩:Nat):Int)==0)=cZ s:=by
 have h1:dQ (⟨#[116,105,116,108,101]⟩:ByteArray)=true:=by decide +kernel
 have h2:wJ [] [⟨⟨#[116,105,116,108,101]⟩,s⟩]=if cZ s=false then 17 else 0:=by
  rw [wJ,h1];have h0:dO [] (⟨#[116,105,116,108,101]⟩:ByteArray)=false:=rfl;rw [if_neg (by decide),h0];split
  ·rfl
  ·rfl
 cases hs:cZ s with
 | true=>
  rw [hs] at h2;have h3:At.err ⟨⟨#[]⟩,[],[⟨⟨#[116,105,116,108,101]⟩,s⟩]⟩=0:=by unfold At.err;rw [h2];rfl
  rw [h3];rfl
 | false=>
  rw [hs] at h2;have h3:At.err ⟨⟨#[]⟩,[],[⟨⟨#[116,105,116,108,101]⟩,s⟩]⟩=17:=by unfold At.err;rw [h2];rfl
  rw [h3];rfl
theorem jb3 {l:List ah} (h:Fh l=0):ah.lQ l:=by obtain ⟨h1,h2⟩:=uQ h;exact ah.jN fZ l 0 0 (by decide) (by decide) h1 (by rw [ah.iO];exact h2)
def eAt:At:=⟨⟨#[]⟩,[],[]⟩
def eTx (t:ByteArray):aj:=.mk 1 t ⟨#[]⟩ ⟨#[]⟩ eAt [] [] []
theorem jzz:G9 [] [] ⟨#[84]⟩ ⟨#[101,110]⟩=0:=by decide +kernel
mutual
theorem ah.jb4 (cl:ByteArray->Bool):∀ (b:ah) (par:Int) (dp:Nat),b.err cl par dp=0->b.aZ.any dG=false->∀ x∈b.each,(∃ d',ah.aQ cl x.GQ d' x.kids=0)/\(ah.bJ x.kids).any dG=false/\ah.aU x.kids<=b.sz
 | .mk k lv i t d ti a li ks,par,dp,h,hu,x,hx=>by
  obtain ⟨h2,hbf,h3⟩:=iE cl h;rw [ah.aZ,List.any_append,Bool.or_eq_false_iff] at hu;rw [ah.each] at hx;rw [ah.sz];rcases List.mem_cons.1 hx with rfl | hx
  ·exact ⟨⟨dp+1,h3⟩,hu.2,by show ah.aU ks<=_;omega⟩
  ·obtain ⟨g1,g2,g3⟩:=ah.BQ cl ks k (dp+1) h3 hu.2 x hx;exact ⟨g1,g2,by omega⟩
theorem ah.BQ (cl:ByteArray->Bool):∀ (l:List ah) (par:Int) (dp:Nat),ah.aQ cl par dp l=0->(ah.bJ l).any dG=false->∀ x∈ah.aG l,(∃ d',ah.aQ cl x.GQ d' x.kids=0)/\(ah.bJ x.kids).any dG=false/\ah.aU x.kids<=ah.aU l
 | [],_,_,_,_,x,hx=>by rw [ah.aG] at hx;cases hx
 | y::l,par,dp,h,hu,x,hx=>by
  rw [ah.aQ] at h;rw [ah.bJ,List.any_append,Bool.or_eq_false_iff] at hu;rw [ah.aG] at hx;rw [ah.aU];by_cases h1:y.err cl par dp≠0
  ·rw [if_pos h1] at h;exact absurd h h1
  ·rw [if_neg h1] at h;rcases List.mem_append.1 hx with hx | hx
   ·obtain ⟨g1,g2,g3⟩:=ah.jb4 cl y par dp (Classical.not_not.1 h1) hu.1 x hx;exact ⟨g1,g2,by omega⟩
   ·obtain ⟨g1,g2,g3⟩:=ah.BQ cl l par dp h hu.2 x hx;exact ⟨g1,g2,by omega⟩
end
theorem WW (l:List ah) (h:Fh l=0) (hsm:ah.ay l) (hz:ah.aU l<=900000):ah.lN l/\∀ x∈ah.aG l,x.GQ=14->ah.lN x.kids/\ah.aU x.kids<=900000:=by obtain ⟨h1,h2⟩:=uQ h;have h3:=jb3 h;refine ⟨ah.tN fZ l 0 0 h1 h3 hsm hz,fun x hx hk=>?_⟩;obtain ⟨⟨d',g1⟩,g2,g3⟩:=ah.BQ fZ l 0 0 h1 (by rw [ah.iO];exact h2) x hx;rw [hk] at g1;have g4:=(qY (ah.fQ l hsm x hx)).1;have g5:=ah.jN fZ x.kids 14 d' (by decide) (by decide) g1 g2;exact ⟨ah.tN fZ _ 14 d' g1 g5 g4 (by omega),by omega⟩
mutual
theorem WX:∀ (b:ah),b.each.length=b.sz
 | .mk k lv i t d ti a li ks=>by rw [ah.each,ah.sz,jKz,qh ks];omega
theorem qh:∀ (l:List ah),(ah.aG l).length=ah.aU l
 | []=>by rw [ah.aG,ah.aU];rfl
 | x::l=>by rw [ah.aG,ah.aU,jKq,WX x,qh l]
end
theorem Ns {x:ah} (h:x.small):x.iOf.size<=300:=by obtain ⟨k,lv,i,t,d,ti,a,li,ks⟩:=x;rw [ah.small] at h;exact h.1
theorem sw:∀ (l:List ah),(l.flatMap iq).length<=l.length
 | []=>by simp
 | x::l=>by
  have h:=sw l;rw [List.flatMap_cons,jKq,jKz];have h2:(iq x).length<=1:=by obtain ⟨k,lv,i,t,d,ti,a,li,ks⟩:=x;unfold iq;dsimp only;split<;>simp
  omega
open Go.RowKit Go.Shelf
attribute [local go_sem] Oper.semAt_some
theorem yE.ok {S Bb N0:Nat} (h1:S<=Bb) (h2:Bb<N0):VJ S (yE Bb N0) where
 below h:=h.below h1 h2
 yld h hb:=(h.cel _ _ _ _ hb (by decide) (by decide)).trans hb
 wlk h hb:=(h.cel _ _ _ _ hb (by decide) (by decide)).trans hb
theorem BuI.Fj {Bb N0:Nat} {L:List Nd} {W W':jN9} {row:Option Nat} (h:BuI Bb N0 L W) (hB:Bb<N0) (hg:W.grownBy W' row) (hr:∀ r,row=some r->N0<=r/\∃ o:Obj,W.heap[r]?=some o/\o.isCells=false):BuI Bb N0 L W':=by obtain ⟨wB,rows,v,h1,h2,h3⟩:=h;refine ⟨wB,rows,v,h1,(h2.Fj hg (fun r e=>⟨by have:=(hr r e).1;omega,(hr r e).2⟩)).up hg.size (jK8 _),?_⟩;exact (hg.block Bb h3.lt (fun e=>by have:=(hr Bb e.symm).1;omega)).trans h3
theorem Nt {c:Code} {Q:Exit->Act->jN9->Prop} {a:Act} {w:jN9} (h:c.wp prog (fun e a w=>(∀ x,e≠Exit.panic x)/\Q e a w) a w):c.wp prog Q a w:=Code.wp_mono (fun _ _ _ h=>h.2) h
def jb5 (b:ah):Prop:=b.iOf.size<=300/\(b.GQ=14->ah.lN b.kids/\ah.aU b.kids<=900000)
def BV.cs (x:BV):List Value:=[.int .i64 x.kd,.int .i64 x.lv,.string x.i,.string x.t,.string x.d,.string x.ti,.string x.at_.id,x.vc,x.vp,x.vl,x.vk]
def clF (Bb:Nat):Value:=.func (.func 39) #[] #[.pointer (some ⟨Bb,0,none⟩)]
def jj2 (Bb Bf Bl:Nat) (s o v2:Value) (E:Int) (x:BV) (Bx:Nat):Act:={ tmps:=#[s,undef,.slice none 0 0,.int .i64 0,.int .i64 E,.pointer (some ⟨Bb,0,none⟩),o,.pointer (some ⟨Bf,0,none⟩),.pointer (some ⟨Bx,0,none⟩),s,.int .i64 E,.int .i64 E,.bool false,undef,s,v2,.bool false,s,o,clF Bb,s,.func (.func 87) #[] #[.pointer (some ⟨Bl,0,none⟩)],x.enc,undef,undef,undef,undef,undef,undef,undef,undef,undef,undef,undef,undef,undef,undef,undef,undef,undef,undef,undef,undef,undef],defers:=[] }
def BtX (N0 Bb Bf Bl:Nat) (s o v2:Value) (E:Int) (x:BV) (a':Act) (W:jN9):Prop:=∃ Bx,N0<=Bx/\CB 48 Bx x.cs W/\a'=jj2 Bb Bf Bl s o v2 E x Bx
theorem BtX.own {N0 Bb Bf Bl B:Nat} {s o v2:Value} {E:Int} {x:BV} {a':Act}:OwnFrom B (fun (_:Unit) W=>BtX N0 Bb Bf Bl s o v2 E x a' W):=fun _ W W' row ⟨Bx,h1,h2,h3⟩ hg hr=>
 ⟨Bx,h1,(hg.block Bx h2.lt (fun e=>by
  obtain ⟨_,o,k1,k2⟩:=hr Bx e.symm;unfold CB at h2;rw [h2] at k1;cases k1;cases k2)).trans h2,h3⟩
def BtI (Bb N0 S:Nat) (w W0:jN9) (pre:List (BW S w jb5)) (W:jN9):Prop:=BuI Bb N0 ((yU pre).flatMap iq) W/\yE Bb N0 W0 W
theorem BtI.own {Bb N0 S:Nat} {w W0:jN9} (hB:Bb<N0) (hz:N0=W0.heap.size):OwnFrom N0 (BtI Bb N0 S w W0):=fun s W W' row h hg hr=>
 ⟨h.1.Fj hB hg hr,h.2.trans (yE.grown hg (by have:=h.2.size;omega) hr)⟩
theorem WY {fn:Func} {R:Ending->jN9->Prop} {a:Act} {w:jN9} {v:Value} (hd:a.defers=[]) (hr:(results fn a.tmps).run prog w=.ok v w) (h:R (.returned v) w):bodyPostM Fence.wide 3 prog fn R .ret a w:=by show LeavesInM _ _ _ _ _ _ a.defers _ _;rw [hd];unfold LeavesInM LeavesIn;exact ⟨v,hr,h⟩
theorem WZ {n:Nat} {fn:Func} {R:Ending->jN9->Prop} {a:Act} {w:jN9} {v:Value} {D:Nat} (hd:a.defers=[{ target:=.collected D,args:=#[] }]) (hf:w.heap[D]?=some (.deferred (some []))) (hr:∀ w',(results fn a.tmps).run prog w'=.ok v w') (h:R (.returned v) (w.putObj D (.deferred none))):bodyPostM Fence.wide n prog fn R .ret a w:=by show LeavesInM _ _ _ _ _ _ a.defers _ _;rw [hd];refine ⟨by simp,.inl ⟨D,_,rfl,run_takeDeferred hf,?_⟩⟩;exact ⟨v,hr _,h⟩
theorem iQ.jA0 {w W:jN9} {E:Nat} {L:List Nd} {v:Value} {D:Nat} (h:iQ w E L (.returned v) W) (hD:w.heap.size<=D) (hf:W.heap[D]?=some (.deferred (some []))):iQ w E L (.returned v) (W.putObj D (.deferred none)):=by obtain ⟨rows,v',he,hr⟩:=h;have hg:=grownBy_putObj' W D (.deferred none);exact ⟨rows,v',he,(hr.Fj hg (fun r e=>by cases e;exact ⟨hD,_,hf,rfl⟩)).up hg.size (jK8 _)⟩
theorem Qb{P:Prop}(h:P:=by
 (intro wv hSw;(try dsimp only at hSw);go_simp;try with_reducible rfl)):P:=h
theorem Qc (l:List ah) (v:Value) (w:jN9) (hrd:Rd (·<w.heap.size) w (iC l) [v]) (hsm:ah.ay l) (hsz:ah.aU l<=900000) (hil:(ah.aJ l).length<=1000) (hbd:ah.mh l) (ht:PT w) : Calls prog 13 #[v] w (iQ w (Fh l) (bsN l)):=by
 obtain ⟨iN,LJ,qx,qz,qA⟩:=info_parts oC;obtain ⟨a,cap,hv,-⟩:=Rd.aB hrd;obtain ⟨nl,hnl⟩:∃ nl,nl=l.length:=⟨_,rfl⟩;obtain rfl:v=.slice a nl cap:=by rw [hnl];simpa using hv
 have LC:=xD fZ l a cap w hsm (fun _=>Ki) (by rw [<- hnl];exact hrd);rw [<- hnl] at LC;have nu:=hid LC;clear hv LC hnl;obtain ⟨S,hS⟩:∃ S,S=w.heap.size:=⟨_,rfl⟩;have Fp:=hid hrd;have jK:=hid hsm;have ou:Hid (∀ W:jN9,jNj S w W->PT W):=fun W hW=>ht.below (by rw [<- hS];exact hW)
 have hee:Fh l=if ah.aQ fZ 0 0 l≠0 then ah.aQ fZ 0 0 l else if (ah.aJ l).any dG=true then 5 else 0:=rfl
 have hnn:bsN l=if Fh l=0 then dL l else []:=rfl
 have HW:=hid (fun h:Fh l=0=>WW l h hsm hsz);have IC:Hid (∀ W:jN9,jNj S w W->Calls prog 37 #[.slice a nl cap] W (fun e w'=>∃ v',e=.returned v'/\Rd (fun _=>True) w' (aZ (ah.aJ l)) [v']/\jNj W.heap.size W w')):=fun W hW=>by
  refine (JB l (.slice a nl cap) W (hrd.up (by rw [<- hS];exact hW)) hbd (by omega) (by omega)).mono ?_;rintro e w2 ⟨v2,bI,rfl,hown2,jA1,EM,b2⟩;exact ⟨v2,rfl,Rd.jl (by rw [jKx];exact hown2) jA1 EM (fun _ _=>trivial),b2⟩
 obtain ⟨E0,hE0⟩:∃ E0,E0=ah.aQ fZ 0 0 l:=⟨_,rfl⟩;obtain ⟨EE,LY⟩:∃ EE,EE=Fh l:=⟨_,rfl⟩;obtain ⟨NN,hNN⟩:∃ NN,NN=bsN l:=⟨_,rfl⟩;rw [<- hE0] at nu hee;rw [<- LY] at hee hnn HW;rw [<- hNN] at hnn;rw [<- LY,<- hNN];have LZ:=hid hee;have HNN:=hid hnn;have HS:=hid hS;clear hrd hee hnn hE0 LY hNN ht hS;refine (callsIn_wide (n:=3)).1 ?_;refine callsIn_of_wp_marks func13 rfl trivial ?_ rfl;simp only [ntmps13,List.size_toArray,jKz,List.length_nil,Nat.reduceAdd,Nat.reduceSub,Array.replicate_succ,Array.replicate_zero,List.push_toArray,List.append_toArray,List.nil_append,List.cons_append];refine wpIn_wide.2 ?_;go_wp2_with fail
 (with_reducible refine nu.out.mono ?_)
 rintro e w1 ⟨rfl,b1⟩;have B1:Hid (jNj S w w1):=by rw [HS.out];exact b1
 clear b1 nu;by_cases h0:E0=0
 ·have q1:((E0:Int) != 0)=false:=by rw [h0];rfl
  have ju1:Hid (EE=if (ah.aJ l).any dG=true then 5 else 0):=by show _=_;rw [LZ.out,if_neg (by simp [h0])]
  have IL:=hid (IC.out w1 B1.out);clear h0;go_wp2_with fail
  (with_reducible refine IL.out.mono ?_)
  rintro e w2 ⟨v2,rfl,VF,b2⟩;have UL:=hid (Mw (ah.aJ l) _ v2 w2 VF);obtain ⟨a2,n2,c2,rfl⟩:=Rd.au VF;have B2:=hid (B1.out.trans (b2.mono (by have:=B1.out.size;have:=HS.out;omega)));clear VF b2 IL;go_wp2_with fail
  (with_reducible refine UL.out.mono ?_)
  rintro e w3 ⟨rfl,b3⟩;have B3:=hid (B2.out.trans (b3.mono (by have:=B2.out.size;have:=HS.out;omega)));obtain ⟨u,hu⟩:∃ u,u=(ah.aJ l).any dG:=⟨_,rfl⟩;rw [<- hu] at ju1;rw [<- hu];clear b3 UL hu;cases u with
  | true=>
   have HF:Hid (iQ w EE NN (.returned (.tuple #[.slice none 0 0,.int .i64 5])) w3):=by
    have h5:EE=5:=by rw [ju1.out];rfl
    rw [h5];exact iQ.nil (by rw [HNN.out,h5];rfl) (by rw [<- HS.out];exact B3.out)
   go_wp2;exact WY rfl (by simp [results,results13,go_sem]) HF.out
  | false=>
   have hE:EE=0:=by rw [ju1.out];rfl
   obtain ⟨hw1,hw3⟩:=HW.out hE;have HPB:=hid (show NN=dL l by rw [HNN.out,hE];rfl);have HE:=hid hE;have HWN:=hid (show ∀ b∈ah.aG l,jb5 b from fun b hb=>⟨Ns (ah.fQ l jK.out b hb),fun hk=>hw3 b hb hk⟩);have HEL:=hid (show (ah.aG l).length<=900000 by rw [qh];exact hsz);have DI:=hid (show (ah.bG l).length<=900000 from jK9 (zV l) (jK9 (ah.dI l) hsz));obtain ⟨Bb,hBb⟩:∃ Bb,Bb=w3.heap.size:=⟨_,rfl⟩;obtain ⟨w4,hw4⟩:∃ w4,w4=w3.alloc (.cells #[.slice none 0 0] 75):=⟨_,rfl⟩;have k4:aH Bb (.slice none 0 0) 75 w4:=by rw [hw4,hBb];exact aH.new _ _ _
   have b4:jNj S w w4:=by rw [hw4];exact B3.out.alloc (by have:=B3.out.size;have:=HS.out;omega) _
   have hSB:S<=Bb:=by have:=B3.out.size;have:=HS.out;omega
   have z4:w4.heap.size=Bb+1:=by rw [hw4,jL5,hBb]
   have HC:=hid (xH (.pointer (some ⟨Bb,0,none⟩)) 900000 l (.slice a nl cap) w4 hsz (by omega) (Fp.out.up (by rw [<- HS.out];exact b4)) hw1 (ou.out w4 b4));have K4:=hid k4;have B4:=hid b4;have Z4:=hid z4;clear hE hw1 hw3 k4 b4 z4;go_upto_region 7 with (fail)
   rw [<- hw4,<- hBb];clear hw4 hBb;go_wp2_with fail
   (with_reducible refine HC.out.mono ?_)
   rintro e w5 ⟨Am,v5,rfl,bZ⟩;obtain ⟨n5,hn5⟩:∃ n5,n5=((ah.bG l).map Nd.d).length:=⟨_,rfl⟩;have jJ6:n5<=900000:=by rw [hn5,jKx];exact DI.out
   obtain ⟨a5,c5,rfl,-,-⟩:=bZ.cap hn5.symm;have HN5:=hid hn5.symm;have jj3:=hid bZ;have B45:=hid bZ.aY;clear bZ hn5 HC;obtain ⟨Bf,hBf⟩:∃ Bf,Bf=w5.heap.size:=⟨_,rfl⟩;obtain ⟨w6,ku⟩:∃ w6,w6=w5.alloc (.cells #[clF Bb] 79):=⟨_,rfl⟩;obtain ⟨W0,hW0⟩:∃ W0,W0=w6.alloc (.cells #[.slice a nl cap] 22):=⟨_,rfl⟩;have z6:w6.heap.size=Bf+1:=by rw [ku,jL5,hBf]
   have zz:W0.heap.size=Bf+2:=by rw [hW0,jL5,z6]
   have jF4:=B45.out.size;have jJ7:Bb<Bf:=by have:=Z4.out;omega
   have g5:jNj w5.heap.size w5 W0:=by rw [hW0,ku];exact ((jK7 _ _).alloc (jK8 _) _).alloc (by rw [jL5];omega) _
   have bF:aH Bf (clF Bb) 79 W0:=by rw [hW0,ku,hBf];exact (aH.new _ _ _).alloc _
   have bL:aH (Bf+1) (.slice a nl cap) 22 W0:=by rw [hW0,<- z6];exact aH.new _ _ _
   have bB:aH Bb (.slice none 0 0) 75 W0:=(K4.out.below (B:=w4.heap.size) (by have:=Z4.out;omega) B45.out).below (B:=w5.heap.size) (by omega) g5;have bl0:jNj S w W0:=(B4.out.trans (B45.out.mono (by have:=Z4.out;omega))).trans (g5.mono (by have:=Z4.out;omega));have HR5:=hid (jj3.out.below g5);have hU5:w5.heap.size=Bf:=hBf.symm;have N0:BtI Bb W0.heap.size S w W0 [] W0:=⟨⟨W0,[],.slice none 0 0,rfl,aC.nil _ _ _ _,bB⟩,yE.refl _ _ _⟩;have HFB:=hid (show aH Bf (clF Bb) 79 W0 from bF);have hnf:∀ (x:Nat) (wx:jN9),Sem.run prog (binOp BinOp.eql 81 (Value.func (Fn.func 87) #[] #[Value.pointer (some ⟨x,0,none⟩)]) Value.nilFunc) wx=.ok (.bool false) wx:=fun x wx=>by rfl
   have W9:=hid (show Rd (·<S) w (iC l) [.slice a nl cap] by rw [HS.out];exact Fp.out);have EC:=hid (VL a nl cap w6);rw [<- hW0,z6] at EC;have HU5:=hid hU5;have HZZ:=hid zz;clear bF bB g5 z6 jF4 jj3 hU5 hW0;have jA2:clF Bb=.func (.func 39) #[] #[.pointer (some ⟨Bb,0,none⟩)]:=rfl;rw [jA2] at ku;go_upto_region 9 with (fail)
   rw [<- ku,<- hBf];clear ku hBf jA2;go_wp2_with fail
   (with_reducible refine EC.out.mono ?_)
   rintro e w7 ⟨rfl,hw7⟩;rw [hw7];clear EC hw7 w7;go_wp2_with fail
   obtain ⟨s0,hs0⟩:∃ s0,s0=Value.slice a nl cap:=⟨_,rfl⟩;have hN0:W0.heap.size=Bf+2:=HZZ.out;have hBN:Bb<W0.heap.size:=by omega
   refine wpIn_wide (n:=3) |>.1 ?_
   refine wpIn_rangeFunc_ownH (α:=BW S w jb5) rfl (by decide) (gf:=87) (lb:=#[.pointer (some ⟨Bf+1,0,none⟩)]) rfl trivial (enters_of func87 (by kernel_rfl) rfl)
    (M6 2 (Bf+1) S jb5 l (.slice a nl cap) w W0 (yE Bb W0.heap.size) (yE.ok hSB hBN) HWN.out W9.out bl0 (by omega) bL) (fun h k=>h.trans k) (fun W l o o' h1 h2 h3 _=>yE.obj Bb W0.heap.size W l o o' h1 h2 h3) (jK7 _ _) (fun _=>rfl)
    (BtI Bb W0.heap.size S w W0) (fun _ _ _=>False) (BtI.own hBN rfl) (fun c s A B row h _ _=>h) N0
    (fun x a' W=>BtX W0.heap.size Bb Bf (Bf+1) (.slice a nl cap) (.slice a5 n5 c5) (.slice a2 n2 c2) (E0:Int) x.1 a' W) (fun x a'=>BtX.own) ?assign ?body ?done ?stop
   case stop=>rintro D c pre W _ _ h _;exact h.elim
   case assign=>
    rintro l0 pre ⟨⟨kd,lv,i,t,d,ti,at_,li,ks,vc,vp,vl,vk⟩,hR,jJ8⟩ W K hi hK;dsimp only at hR hK;obtain ⟨ac,nc,cc,rfl⟩:=Rd.au hR.at_.cls
    obtain ⟨ap,np,cp,rfl⟩:=Rd.au hR.at_.aD
    obtain ⟨al,nl2,cl,rfl⟩:=Rd.au hR.line;obtain ⟨ak,nk,ck,rfl⟩:=Rd.au hR.kids;have HI:=hid hi;have HK:=hid hK;clear hi hK;dsimp only [BV.enc]
    gi_wp2
    have hsz:=HI.out.2.size;exact HK.out _ _ ((KeepsOthers.alloc _ _).from _) (yE.grown (World.grownBy_alloc _ _ none) hsz (fun r e=>by cases e)) ⟨HI.out.1.Fj hBN (World.grownBy_alloc _ _ none) (fun r e=>by cases e),HI.out.2.trans (yE.grown (World.grownBy_alloc _ _ none) hsz (fun r e=>by cases e))⟩ ⟨W.heap.size,hsz,heap_alloc_new W _,rfl⟩
   case body=>
    rintro l0 pre x a' W hl0 _ hN ⟨Bx,hBx,Qd,rfl⟩ hlen;have hR:=x.2.1;have hNK:=x.2.2;obtain ⟨y,hy⟩:∃ y,y=x.1:=⟨_,rfl⟩;rw [<- hy] at hR Qd hNK ⊢;have HEQ:Hid ((yU (pre++[x])).flatMap iq=(yU pre).flatMap iq++iq y.blk):=by show _=_;rw [jZ,List.flatMap_append,hy];show _++List.flatMap iq [x.1.blk]=_;rw [List.flatMap_cons,List.flatMap_nil,List.append_nil]
    have jA3:((yU pre).flatMap iq).length<=1000000:=by have h1:=sw (yU pre);rw [BS] at h1;have:=HEL.out;omega
    obtain ⟨kd,lv,i,t,d,ti,at_,li,ks,vc,vp,vl,vk⟩:=y;dsimp only at hR;have hNK:i.size<=300/\(kd=14->ah.lN ks/\ah.aU ks<=900000):=hNK;obtain ⟨ac,nc,cc,rfl⟩:=Rd.au hR.at_.cls
    obtain ⟨ap,np,cp,rfl⟩:=Rd.au hR.at_.aD
    obtain ⟨al,nl2,cl,rfl⟩:=Rd.au hR.line;obtain ⟨ak,nk,ck,rfl⟩:=Rd.au hR.kids;have c0:=Qd.cell 0 _ rfl;have hSW:=hN.2.size;have hbW:jNj S w W:=bl0.trans (hN.2.below (S:=S) hSB hBN);have HN:=hid hN;dsimp only at c0;clear hlen hy hN;unfold jj2;dsimp only [BV.enc];by_cases hk:kd=14
    ·subst hk;have q1:((14:Int)==14)=true:=rfl;have c1:=Qd.cell 1 _ rfl;have c2:=Qd.cell 2 _ rfl;have c3:=Qd.cell 3 _ rfl;have c4:=Qd.cell 4 _ rfl;have c5:=Qd.cell 5 _ rfl;have c6:=Qd.cell 6 _ rfl;have c7:=Qd.cell 7 _ rfl;have c8:=Qd.cell 8 _ rfl;have c9:=Qd.cell 9 _ rfl;have c10:=Qd.cell 10 _ rfl;dsimp only at c1 c2 c3 c4 c5 c6 c7 c8 c9 c10;have bxF:W.cell? ⟨Bf,0,none⟩=some (.func (.func 39) #[] #[.pointer (some ⟨Bb,0,none⟩)]):=aH.cell (t:=79) ((HN.out.2.blk Bf (by omega) (by omega)).trans HFB.out);have hCA:=Jy Bb W0.heap.size ((yU pre).flatMap iq) 14 lv i t d ti at_ li ks (.slice ac nc cc) (.slice ap np cp) (.slice al nl2 cl) (.slice ak nk ck) W hBN (hR.Jc (fun b (hb:b<S) hlt=>⟨by omega,hbW.block b hb⟩)) (hNK.2 rfl).1 (hNK.2 rfl).2 hNK.1 (ou.out W hbW) jA3 HN.out.1
     have HCA:=hid hCA;have hno:iq (BV.blk ⟨14,lv,i,t,d,ti,at_,li,ks,.slice ac nc cc,.slice ap np cp,.slice al nl2 cl,.slice ak nk ck⟩)=[aW vM [⟨pR,eX++i⟩,⟨gV,jB⟩] (ah.bG ks)]:=rfl;have Ib:=hid hno;clear hno hCA Qd hR hNK
     gi_wp2_with fail
     refine ⟨trivial,?_⟩;refine (CallsIn.inRound l0 (callsIn_wide.2 HCA.out)).mono ?_;rintro e W2 ⟨rfl,hBu,hKp,hSt⟩;have HP:Hid (BtI Bb W0.heap.size S w W0 (pre++[x]) W2):=by refine ⟨?_,HN.out.2.trans hKp⟩;rw [HEQ.out,Ib.out];exact hBu
     have HKF:Hid (KeepsFrom W0.heap.size W W2):=⟨hKp.size,fun k o hk' ho hc=>hSt k o ho hc⟩;have HKP:=hid hKp;clear hBu hKp hSt c0 c1 c2 c3 c4 c5 c6 c7 c8 c9 c10 bxF HCA;dsimp only
     gi_wp2
     exact ⟨HKF.out,HKP.out,HP.out⟩
    ·have q1:(kd==14)=false:=by rw [beq_eq_false_iff_ne];exact hk
     have HP:Hid (BtI Bb W0.heap.size S w W0 (pre++[x]) W):=by
      have hno:iq (BV.blk ⟨kd,lv,i,t,d,ti,at_,li,ks,.slice ac nc cc,.slice ap np cp,.slice al nl2 cl,.slice ak nk ck⟩)=[]:=by show iq (.mk kd lv i t d ti at_ li ks)=_;unfold iq;exact if_neg hk
      refine ⟨?_,HN.out.2⟩;rw [HEQ.out,hno,List.append_nil];exact HN.out.1
     clear hk Qd hR hNK
     gi_wp2
     exact ⟨(KeepsOthers.refl _).from _,yE.refl _ _ _,HP.out⟩
   case done=>
    rintro D pre W hD hpre hN hK;rw [BtI,hpre] at hN;obtain ⟨⟨wB,rows,vN,hzB,hrow,hbx⟩,hkp⟩:=hN;have hnt:(ah.aG l).flatMap iq=iK l:=rfl;rw [hnt] at hrow;obtain ⟨m,hm⟩:∃ m,m=((iK l).map Nd.d).length:=⟨_,rfl⟩;have hm1:m<=900000:=by rw [hm,jKx];exact jK9 (sw (ah.aG l)) HEL.out
    obtain ⟨av,cv,rfl,-,-⟩:=hrow.cap hm.symm;have hbl:jNj S w W:=bl0.trans (hkp.below (S:=S) hSB hBN);have hDW:D<W.heap.size:=(Array.getElem?_eq_some_iff.1 hK).1;have hBZ:w5.heap.size=Bf:=HU5.out;obtain ⟨wO,hzO,hrO⟩:=HR5.out.reU (w':=W) hkp.size (fun b h1 h2=>hkp.blk b (by omega) (by have:=Z4.out;omega));have HO:=hid hrO;have HZO:=hid hzO;have HK:=hid hK;have sK:=hid hbl;have bR:=hid hrow;have Ij:=hid hzB;have HSW:=hid hkp.size;have x0:=hbx.cell;have BXF:Hid (∀ y:jN9,jNj W.heap.size W y->y.cell? ⟨Bb,0,none⟩=some (.slice av m cv)):=fun y hy=>(hbx.below (by have:=hkp.size;omega) hy).cell
    have hml:(iK l).length=m:=by rw [hm,jKx]
    have HML:=hid hml;clear hrO hzO hK hbl hrow hzB hbx hpre hm hkp hml hnt;by_cases hm0:m=0
    ·have q8:¬ (0:Int)<(m:Int):=by omega
     have HF:Hid (iQ w EE NN (.returned (.tuple #[.slice a5 n5 c5,.int .i64 0])) W):=by
      have hNN:NN=ah.bG l:=by rw [HPB.out];unfold dL;rw [if_pos (by rw [List.isEmpty_iff,<- List.length_eq_zero_iff,HML.out];exact hm0),List.append_nil]
      rw [HE.out,hNN];exact ⟨_,_,rfl,(HO.out.Ag (by have:=HZO.out;have:=HS.out;have:=Z4.out;omega) (by rw [<- HS.out];exact sK.out)).top⟩
     have HF2:=hid (HF.out.jA0 (by have:=HS.out;omega) HK.out);clear HF;go_wp2;exact WZ rfl HK.out (fun w'=>by simp [results,results13,go_sem]) HF2.out
    ·have q8:(0:Int)<(m:Int):=by omega
     have hNN:NN=ah.bG l++[aW eu [⟨gV,mP⟩] (iK l)]:=by rw [HPB.out];unfold dL;rw [if_neg (by rw [List.isEmpty_iff,<- List.length_eq_zero_iff,HML.out];exact hm0)]
     have jF5:=hid hNN;clear hNN;go_upto_region 14 with (fail)
     refine Nt ?_;refine q2s 9 (fun w'=>w'.cell? ⟨Bb,0,none⟩=some (.slice av m cv)) (by kernel_rfl) (BXF.out W.drew (jK7 _ _).drew) ?_;intro hH;refine gJ (i:=0) (v:=?_) rfl (by kernel_rfl) (by kernel_rfl) (by kernel_rfl) (by kernel_rfl) (by kernel_rfl) (fun _ _ _ h=>absurd rfl (h.1 _)) hH (Or.inl ⟨by rfl,?_⟩) ?_;rotate_left
     ·exact Qb
     refine gJ (i:=3) (v:=?_) rfl (by kernel_rfl) (by kernel_rfl) (by kernel_rfl) (by kernel_rfl) (by kernel_rfl) (fun _ _ _ h=>absurd rfl (h.1 _)) hH (Or.inl ⟨by rfl,?_⟩) ?_;rotate_left
     ·exact Qb
     refine gJ (i:=4) (v:=?_) rfl (by kernel_rfl) (by kernel_rfl) (by kernel_rfl) (by kernel_rfl) (by kernel_rfl) (fun _ _ _ h=>absurd rfl (h.1 _)) hH (Or.inl ⟨by rfl,?_⟩) ?_;rotate_left
     ·exact Qb
     refine gJ (i:=5) (v:=?_) rfl (by kernel_rfl) (by kernel_rfl) (by kernel_rfl) (by kernel_rfl) (by kernel_rfl) (fun _ _ _ h=>absurd rfl (h.1 _)) hH (Or.inl ⟨by rfl,?_⟩) ?_;rotate_left
     ·exact Qb
     obtain ⟨y0,hy0⟩:∃ y0,y0=W.drew:=⟨_,rfl⟩;have B0y:jNj W.heap.size W y0:=by rw [hy0];exact (jK7 _ _).drew
     rw [<- hy0] at hH;rw [<- hy0];clear hy0;have PC:Hid (Calls prog 41 #[.slice (some ⟨y0.heap.size,0,none⟩) 2 2] (y0.alloc (.cells #[.string ⟨#[99,108,97,115,115]⟩,.string ⟨#[110,111,116,101,115]⟩] 9)) (bV (y0.alloc (.cells #[.string ⟨#[99,108,97,115,115]⟩,.string ⟨#[110,111,116,101,115]⟩] 9)) [⟨gV,mP⟩])):=Zm gV mP y0;refine fK 1 fun KQ hK=>?_
     go_simp;have B1:jNj W.heap.size W (y0.alloc (.cells #[.string ⟨#[99,108,97,115,115]⟩,.string ⟨#[110,111,116,101,115]⟩] 9)):=B0y.alloc B0y.size _;refine dY hK (BXF.out _ B1) ?_;clear hK KQ hH;intro hH;refine fK 2 fun KQ hK=>?_
     go_simp;go_at_call 41
     (with_reducible refine (PC.out).mono ?_)
     rintro e y2 ⟨bI,v2,rfl,hrow2⟩;obtain ⟨a9,c9,rfl,-,-⟩:=hrow2.cap (n:=1) rfl;have B2:jNj W.heap.size W y2:=B1.trans (hrow2.aY.mono B1.size);have PR2:=hid (show Rd (W.heap.size<=·) y2 (dx [⟨gV,mP⟩]) [.slice a9 1 c9] from hrow2.iZ.weaken (fun b hb=>jK9 B1.size hb));clear hrow2 PC;refine dY hK (BXF.out _ B2) ?_;clear hK KQ hH;intro hH;refine fK 6 fun KQ hK=>?_
     go_simp;go_at_call 40
     (with_reducible refine (ny ⟨#[115,101,99,116,105,111,110]⟩ a9 av 1 m c9 cv y2).mono ?_)
     rintro e y3 ⟨rfl,hb⟩;have B3:jNj W.heap.size W y3:=B2.trans (hb.mono B2.size);have XD:=hid (show Rd (fun b=>False\/w5.heap.size<=b) y3 (aW eu [⟨gV,mP⟩] (iK l)).d [.string ⟨#[115,101,99,116,105,111,110]⟩,.string ⟨#[]⟩,.slice a9 1 c9,.slice av m cv] from (Nd.fC ⟨#[115,101,99,116,105,111,110]⟩ ⟨#[]⟩ ⟨(PR2.out.bP hb).weaken (fun b (hb:W.heap.size<=b)=>by have:=HSW.out;show w5.heap.size<=b;omega),(bR.out.iZ.bP B3).weaken (fun b (hb:wB.heap.size<=b)=>by have:=Ij.out;show w5.heap.size<=b;omega)⟩).weaken (fun b hb=>.inr hb));have U3:=hid (HO.out.below B3);have K3:=hid (show y3.heap[D]?=some (.deferred (some [])) from (B3.block D hDW).trans HK.out);have hD3:D<y3.heap.size:=Nat.lt_of_lt_of_le hDW B3.size;clear hb;refine dY hK (BXF.out _ B3) ?_;clear hK KQ hH;intro hH;refine fK 7 fun KQ hK=>?_
     go_simp;refine dY hK (BXF.out _ (B3.alloc B3.size _)) ?_;clear hK KQ hH;intro hH;refine fK 8 fun KQ hK=>?_
     refine Ab (n:=n5) rfl (.tmp 34) (.tmp 41) 28 rfl iN _ 80 underlying28 LJ qx qz qA rfl (by decide) U3.out (fun _=>False.elim) (aW eu [⟨gV,mP⟩] (iK l)).d [.string ⟨#[115,101,99,116,105,111,110]⟩,.string ⟨#[]⟩,.slice a9 1 c9,.slice av m cv] XD.out rfl kR HN5.out (by omega) (by decide) rfl rfl ?_;intro a6 c6 w8 Fq hg8;have hoD:some D≠(Value.slice a5 n5 c5).ownBlock:=fun e=>by have:=U3.out.oU D e.symm;omega
     have K8:w8.heap[D]?=some (.deferred (some [])):=(hg8.block D (by rw [jL5];omega) hoD).trans ((Below.heap_alloc y3 _ D hD3).trans K3.out);have B8:jNj w.heap.size w w8:=by have h1:jNj S wO w8:=Fq.aY.mono (by have:=HZO.out;have:=Z4.out;omega);have h2:jNj S w y3:=sK.out.trans (B3.mono (by have:=sK.out.size;have:=HS.out;omega));rw [<- HS.out];exact (h2.alloc (by have:=h2.size;have:=HS.out;omega) _).grown hg8 (by rw [jL5];have:=h2.size;have:=HS.out;omega) (fun j hj=>by have:=U3.out.own.lt j hj;have:=HZO.out;have:=Z4.out;omega)
     have HF:iQ w EE NN (.returned (.tuple #[.slice a6 (n5+1) c6,.int .i64 0])) w8:=by rw [HE.out,jF5.out];refine ⟨Am++[[.string ⟨#[115,101,99,116,105,111,110]⟩,.string ⟨#[]⟩,.slice a9 1 c9,.slice av m cv]],_,rfl,?_⟩;rw [List.map_append];exact Fq.Ag (by have:=HZO.out;have:=HS.out;have:=Z4.out;omega) B8
     have HF2:=hid (HF.jA0 (by have:=HS.out;omega) K8);have HK8:=hid K8;have cb8:w8.cell? ⟨Bb,0,none⟩=some (.slice av m cv):=by
      have hBl:Bb<y3.heap.size:=by omega
      rw [lI (hg8.block Bb (by rw [jL5];omega) (fun e=>by have:=(U3.out.own.lt Bb e.symm).1;have:=HZO.out;have:=Z4.out;omega))];exact BXF.out _ (B3.alloc B3.size _)
     clear Fq hg8 HF B8 K8 hoD;refine dY hK cb8 ?_;clear hK KQ hH;intro hH;refine fK 9 fun KQ hK=>?_
     go_simp;refine qB hK ?_;clear hK KQ hH;refine yF ?_;refine ⟨fun _ h=>(by cases h),?_⟩;clear XD U3 PR2;go_wp2;exact WZ rfl HK8.out (fun w'=>by simp [results,results13,go_sem]) HF2.out
 ·have q1:((E0:Int) != 0)=true:=by rw [bne_iff_ne];omega
  have HF:Hid (iQ w EE NN (.returned (.tuple #[.slice none 0 0,.int .i64 (E0:Int)])) w1):=by
   have h5:EE=E0:=by rw [LZ.out,if_pos (by simpa using h0)]
   rw [h5];exact iQ.nil (by rw [HNN.out,h5,if_neg h0]) (by rw [<- HS.out];exact B1.out)
  clear h0;go_wp2;exact WY rfl (by simp [results,results13,go_sem]) HF.out
open Go.RowKit
theorem jb6 {ok:Nat->Prop} {w:jN9} {n t:ByteArray} {a:List Pr} {ks:List Nd} {va vk:Value} (h:Rd ok w (Nd.mk n t a ks).d [.string n,.string t,va,vk]):Rd ok w (dR ks) [vk]:=by obtain ⟨va',vk',e,hR⟩:=Nd.open_ h;simp only [List.cons.injEq,and_true,true_and] at e;obtain ⟨rfl,rfl⟩:=e;exact hR.ks
def PgX (w w':jN9) (title:ByteArray) (at_:List Pr) (va vk:Value):Prop:=
 ∃ (p3:Nat) (kh bv:Value),vk=.slice (some ⟨p3,0,none⟩) 2 2/\w.heap.size<=p3/\CB 35 p3 [.string jh,.string ⟨#[]⟩,.slice none 0 0,kh,.string fD,.string ⟨#[]⟩,.slice none 0 0,bv] w' /\
  Rd (fun b=>w.heap.size<=b/\b<p3) w' (dR [aW ig [⟨GI,fP⟩] [],aW fH [] (bY title)]) [kh]/\Rd (fun b=>w.heap.size<=b/\b<p3) w' (dx at_) [va]
def kY (w:jN9) (title:ByteArray) (E:Nat) (x:Nd) (e:Ending) (w':jN9):Prop:=
 ∃ va vk,e=.returned (.tuple #[.agg #[.string x.nm,.string x.tx,va,vk],.int .i64 (E:Int)])/\nC (w.heap.size<=·) w' x.at_ x.ks va vk/\jNj w.heap.size w w'/\(E=0->PgX w w' title x.at_ va vk)
theorem kY.of {w w':jN9} {title:ByteArray} {E:Nat} {E':Int} {x:Nd} {v:Value} (h:q1z w x (.returned v) w') (hE:E'=(E:Int)) (hx:E=0->∀ va vk,v=.agg #[.string x.nm,.string x.tx,va,vk]->PgX w w' title x.at_ va vk):kY w title E x (.returned (.tuple #[v,.int .i64 E'])) w':=by
 obtain ⟨va,vk,he,h1,h2⟩:=h;subst hE;injection he with he
 exact ⟨va,vk,by rw [he],h1,h2,fun h0=>hx h0 va vk he⟩
theorem Xa{P Q:Prop}(q:Q)(h:Nonempty Q->P:=by
 intro qQ;have X0:Hid (∀ W:jN9,jNj W0.heap.size W0 W->W.cell? ⟨S,1,none⟩=some (.slice ab nb cb)):=fun W hW=>(k0.below hW).cell 1 _ rfl
 have x0:=k0.cell 0 _ rfl;have x1:=k0.cell 1 _ rfl;revert X0 x0 x1;exact qQ.elim fun x=>x):P:=h ⟨q⟩
theorem jj4{P Q:Prop}(q:Q)(h:Nonempty Q->P:=by
 intro qQ;obtain ⟨x0,x1,x2,x3,xf⟩:=Ep (K1.out.below B2.out);obtain ⟨w9,dB⟩:∃ w9,w9=four w2 (S+1) (.string ⟨#[]⟩) (.string ⟨#[]⟩) (.slice none 0 0) (.slice none 0 0):=⟨_,rfl⟩;have hf:=gX ⟨#[]⟩ ⟨#[]⟩ [] [] LU.out Z0.out B0.out K1.out B2.out ⟨Rd.aI _ _ _,Rd.aI _ _ _⟩;rw [<- dB] at hf;revert x0 x1 x2 x3 xf w9 dB hf;exact qQ.elim fun x=>x):P:=h ⟨q⟩
theorem jj5{P Q:Prop}(q:Q)(h:Nonempty Q->P:=by
 intro qQ;obtain ⟨x0,x1,x2,x3,xf⟩:=Ep (K1.out.below B3.out);obtain ⟨w9,dB⟩:∃ w9,w9=four w3 (S+1) (.string ⟨#[]⟩) (.string ⟨#[]⟩) (.slice none 0 0) (.slice none 0 0):=⟨_,rfl⟩;have hf:=gX ⟨#[]⟩ ⟨#[]⟩ [] [] LU.out Z0.out B0.out K1.out B3.out ⟨Rd.aI _ _ _,Rd.aI _ _ _⟩;rw [<- dB] at hf;revert x0 x1 x2 x3 xf w9 dB hf;exact qQ.elim fun x=>x):P:=h ⟨q⟩
theorem Nu (me:List Pr) (l:List ah) (title lang:ByteArray) (vm vb:Value) (w:jN9) (hm:Rd (·<w.heap.size) w (dx me) [vm]) (hb:Rd (·<w.heap.size) w (iC l) [vb]) (hme:me.length<=1000) (gU:∀ p∈me,p.key.size<=1000/\p.val.size<=1000) (hall:ah.bU l<=32768) (hsm:ah.ay l) (hsz:ah.aU l<=900000) (hil:(ah.aJ l).length<=1000) (hbd:ah.mh l) (hti:title.size<=300) (hla:lang.size<=300) (ht:PT w) : Calls prog 16 #[.agg #[vm,vb],.string title,.string lang] w (kY w title (G9 me l title lang) (pgN me l title lang)):=by
 obtain ⟨am,cm,Y5,-⟩:=Rd.aB hm;obtain ⟨nm,hnm⟩:∃ nm,nm=me.length:=⟨_,rfl⟩;obtain rfl:vm=.slice am nm cm:=by rw [hnm];simpa using Y5
 obtain ⟨ab,nb,cb,rfl⟩:=Rd.au hb;clear Y5;obtain ⟨S,W0,hS,hW0,z0,k0,k1,b0⟩:=vT 26 w [.slice am nm cm,.slice ab nb cb];have RP:jNj w.heap.size w W0:=by rw [<- hS];exact b0
 have CK:=Mt fZ me l am ab cm nb cb W0 hme gU hall hsm (fun _=>Ki) (by rw [<- hnm];exact hm.up RP) (hb.up RP);rw [<- hnm] at CK;have BC:Hid (∀ W:jN9,jNj W0.heap.size W0 W->Calls prog 13 #[.slice ab nb cb] W (iQ W (Fh l) (bsN l))):=fun W hW=>Qc l _ W (hb.up (RP.trans (hW.mono RP.size))) hsm hsz hil hbd (ht.below (RP.trans (hW.mono RP.size)))
 have LC:Hid (∀ W:jN9,Calls prog 51 #[.string title] W (dF (.bool (cZ title)) W)):=fun W=>by
  have h:=Jm title W (by omega);rw [RO] at h;exact h
 have NC:Hid (∀ W:jN9,Calls prog 52 #[.string lang] W (fun e w'=>e=.returned (.bool (dQ lang))/\W=w')):=fun W=>Tm lang W (by omega)
 obtain ⟨EE,LY⟩:∃ EE,EE=G9 me l title lang:=⟨_,rfl⟩;obtain ⟨E0,hE0⟩:∃ E0,E0=Ei fZ me l:=⟨_,rfl⟩;obtain ⟨T,hT⟩:∃ T,T=cZ title:=⟨_,rfl⟩;obtain ⟨G,hG⟩:∃ G,G=dQ lang:=⟨_,rfl⟩;obtain ⟨EB,hEB⟩:∃ EB,EB=Fh l:=⟨_,rfl⟩;obtain ⟨NB,hNB⟩:∃ NB,NB=bsN l:=⟨_,rfl⟩;have hee:EE=if E0≠0 then E0 else if T=false then 17 else if G=false then 6 else EB:=by
  rw [LY,hE0,hT,hG,hEB];unfold G9;by_cases h0:Ei fZ me l≠0
  ·rw [if_pos h0,if_pos h0]
  ·rw [if_neg h0,if_neg h0];have h1:Fh l=if (ah.aJ l).any dG=true then 5 else 0:=by
    unfold Fh;rw [if_neg (by rw [WT (Classical.not_not.1 h0)];simp)]
   rw [h1]
 have hpn:pgN me l title lang=if EE=0 then yH title lang (dL l) else nG:=by rw [LY];rfl
 have hnb:EB=0->NB=dL l:=fun h=>by rw [hNB];unfold bsN;rw [if_pos (hEB.symm.trans h)]
 rw [<- hE0] at CK;rw [<- hT] at LC;rw [<- hG] at NC;rw [<- hEB,<- hNB] at BC;rw [<- LY];have HCK:=hid CK;have LZ:=hid hee;have HPN:=hid hpn;have HNB:=hid hnb;have LU:=hid hS;have HW0:=hid hW0;have Z0:=hid z0;have B0:=hid b0;have K1:=hid k1;refine Xa ?_;intro X0 x0 x1;clear CK hm hb hme gU hall hsm hsz hil hbd hti hla ht LY hE0 hT hG hEB hNB hee hpn hnb hS hW0 z0 b0 k1 k0 RP hnm;go_enter func16,ntmps16;go_upto_region 1 with (fail)
 rw [<- LU.out];refine Pq ?_;go_wp2_with fail
 (with_reducible refine HCK.out.mono ?_)
 rintro e w1 ⟨rfl,b1⟩;have B1:=hid b1;clear b1 HCK x0 x1;by_cases h0:E0=0
 ·have q1:((E0:Int) != 0)=false:=by rw [h0];rfl
  have TN:Hid (EE=if T=false then 17 else if G=false then 6 else EB):=by show _=_;rw [LZ.out,if_neg (by simp [h0])]
  have LT:=hid (LC.out w1);clear h0 LZ;go_wp2_with fail
  (with_reducible refine LT.out.mono ?_)
  rintro e w2 ⟨rfl,b2⟩;have B2:=hid (q01 B1.out b2);clear b2 LT;cases T with
  | false=>
   have jA4:=hid (show EE=17 by rw [TN.out];rfl);have HPZ:=hid (show pgN me l title lang=nG by rw [HPN.out,jA4.out];rfl);refine jj4 ?_;intro x0 x1 x2 x3 xf w9 dB hf;refine xP ?_;clear hf dB;intro Db DR hw8;go_wp2;refine uo ?_;intro r0 r1 r2 r3;exact bodyPost_ret (v:=.tuple #[.agg #[.string ⟨#[]⟩,.string ⟨#[]⟩,.slice none 0 0,.slice none 0 0],.int .i64 (17)]) (by simp [results,results16,go_sem,r0,r1,r2,r3]) rfl (by rw [HPZ.out,jA4.out];exact kY.of DR.out (by simp) (fun h=>by cases h))
  | true=>
   have NT:=hid (NC.out w2);go_wp2_with fail
   (with_reducible refine NT.out.mono ?_)
   rintro e w3 ⟨rfl,hw3⟩;rw [<- hw3];clear NT hw3 w3;cases G with
   | false=>
    have HE6:=hid (show EE=6 by rw [TN.out];rfl);have HPZ:=hid (show pgN me l title lang=nG by rw [HPN.out,HE6.out];rfl);refine jj4 ?_;intro x0 x1 x2 x3 xf w9 dB hf;refine xP ?_;clear hf dB;intro Db DR hw8;go_wp2;refine uo ?_;intro r0 r1 r2 r3;exact bodyPost_ret (v:=.tuple #[.agg #[.string ⟨#[]⟩,.string ⟨#[]⟩,.slice none 0 0,.slice none 0 0],.int .i64 (6)]) (by simp [results,results16,go_sem,r0,r1,r2,r3]) rfl (by rw [HPZ.out,HE6.out];exact kY.of DR.out (by simp) (fun h=>by cases h))
   | true=>
    have HEB:=hid (show EE=EB by rw [TN.out];rfl);have BT:=hid (BC.out w2 B2.out);have x1:=X0.out w2 B2.out;go_wp2_with fail
    (with_reducible refine BT.out.mono ?_)
    rintro e w3 ⟨gW,v3,rfl,hrow3⟩;obtain ⟨a3,n3,c3,rfl⟩:=hrow3.slice3;have B3:=hid (q01 B2.out hrow3.aY);have KB3:=hid (show Rd (W0.heap.size<=·) w3 (dR NB) [.slice a3 n3 c3] from hrow3.iZ.weaken (fun b (hb:w2.heap.size<=b)=>jK9 B2.out.size hb));clear hrow3 BT x1;by_cases hB0:EB=0
    ·have q2:((EB:Int) != 0)=false:=by rw [hB0];rfl
     have HPF:=hid (show pgN me l title lang=yH title lang (dL l) by rw [HPN.out,if_pos (by rw [HEB.out,hB0])]);have H0:=hid (show EE=0 by rw [HEB.out,hB0]);have KP3:=hid (show Rd (W0.heap.size<=·) w3 (dR (dL l)) [.slice a3 n3 c3] by rw [<- HNB.out hB0];exact KB3.out);clear hB0 KB3;have PC:Hid (Calls prog 41 #[.slice (some ⟨w3.heap.size,0,none⟩) 2 2] (w3.alloc (.cells #[.string ⟨#[99,104,97,114,115,101,116]⟩,.string ⟨#[117,116,102,45,56]⟩] 9)) (bV (w3.alloc (.cells #[.string ⟨#[99,104,97,114,115,101,116]⟩,.string ⟨#[117,116,102,45,56]⟩] 9)) [⟨GI,fP⟩])):=Zm GI fP w3;have bA:jNj w3.heap.size w3 (w3.alloc (.cells #[.string ⟨#[99,104,97,114,115,101,116]⟩,.string ⟨#[117,116,102,45,56]⟩] 9)):=(jK7 _ _).alloc (jK8 _) _;go_wp2_with fail
     (with_reducible refine PC.out.mono ?_)
     rintro e w4 ⟨eH,v4,rfl,hrow4⟩;obtain ⟨a4,c4,rfl,-,-⟩:=hrow4.cap (n:=1) rfl;have b34:jNj w3.heap.size w3 w4:=bA.trans (hrow4.aY.mono bA.size);have B4:=hid (q01 B3.out b34);have PR4:=hid (show Rd (W0.heap.size<=·) w4 (dx [⟨GI,fP⟩]) [.slice a4 1 c4] from hrow4.iZ.weaken (fun b hb=>jK9 B3.out.size (jK9 bA.size hb)));have KP4:=hid (KP3.out.bP b34);have EC1:=hid (ny ⟨#[109,101,116,97]⟩ a4 none 1 0 c4 0 w4);clear hrow4 bA b34 PC KP3;go_wp2_with fail
     (with_reducible refine EC1.out.mono ?_)
     rintro e w5 ⟨rfl,b5⟩;have B5:=hid (q01 B4.out b5);have XM5:=hid (show Rd (W0.heap.size<=·) w5 (aW ig [⟨GI,fP⟩] []).d [.string ⟨#[109,101,116,97]⟩,.string ⟨#[]⟩,.slice a4 1 c4,.slice none 0 0] from Nd.fC ⟨#[109,101,116,97]⟩ ⟨#[]⟩ ⟨PR4.out.bP b5,Rd.aI _ _ _⟩);have KP5:=hid (KP4.out.bP b5);have DC:=hid (jd title w5);clear b5 EC1 PR4 KP4;go_wp2_with fail
     (with_reducible refine DC.out.mono ?_)
     rintro e w6 ⟨jA5,v6,rfl,uq⟩;obtain ⟨a6,n6,c6,rfl⟩:=uq.slice3;have B6:=hid (q01 B5.out uq.aY);have XM6:=hid (XM5.out.bP uq.aY);have KP6:=hid (KP5.out.bP uq.aY);have KT6:=hid (show Rd (W0.heap.size<=·) w6 (dR (bY title)) [.slice a6 n6 c6] from uq.iZ.weaken (fun b (hb:w5.heap.size<=b)=>jK9 B5.out.size hb));have EC2:=hid (ny ⟨#[116,105,116,108,101]⟩ none a6 0 n6 0 c6 w6);clear uq DC XM5 KP5;go_wp2_with fail
     (with_reducible refine EC2.out.mono ?_)
     rintro e w7 ⟨rfl,b7⟩;have B7:=hid (q01 B6.out b7);have KD7:=hid (Py (ok:=(W0.heap.size<=·)) (w:=w7) (x:=(aW ig [⟨GI,fP⟩] [])) (y:=(aW fH [] (bY title))) B7.out.size (XM6.out.bP b7) (Nd.fC ⟨#[116,105,116,108,101]⟩ ⟨#[]⟩ ⟨Rd.aI _ _ _,KT6.out.bP b7⟩));have bA:jNj w7.heap.size w7 (w7.alloc (.cells #[.string ⟨#[109,101,116,97]⟩,.string ⟨#[]⟩,.slice a4 1 c4,.slice none 0 0,.string ⟨#[116,105,116,108,101]⟩,.string ⟨#[]⟩,.slice none 0 0,.slice a6 n6 c6] 35)):=(jK7 _ _).alloc (jK8 _) _;have BA7:=hid (q01 B7.out bA);have KP7:=hid ((KP6.out.bP b7).bP bA);obtain ⟨p7,hp7⟩:∃ p7,p7=w7.heap.size:=⟨_,rfl⟩;have HP7:=hid hp7;have EC3:=ny ⟨#[104,101,97,100]⟩ none (some ⟨p7,0,none⟩) 0 2 0 2 (w7.alloc (.cells #[.string ⟨#[109,101,116,97]⟩,.string ⟨#[]⟩,.slice a4 1 c4,.slice none 0 0,.string ⟨#[116,105,116,108,101]⟩,.string ⟨#[]⟩,.slice none 0 0,.slice a6 n6 c6] 35));rw [<- hp7] at KD7;have EC3:=hid EC3;clear b7 EC2 XM6 KP6 KT6 bA hp7;go_wp2_with fail
     rw [<- HP7.out]
     (with_reducible refine EC3.out.mono ?_)
     rintro e w8 ⟨rfl,b8⟩;have B8:=hid (q01 BA7.out b8);have XH8:=hid (show Rd (W0.heap.size<=·) w8 (aW jh [] [(aW ig [⟨GI,fP⟩] []),(aW fH [] (bY title))]).d [.string ⟨#[104,101,97,100]⟩,.string ⟨#[]⟩,.slice none 0 0,.slice (some ⟨p7,0,none⟩) 2 2] from Nd.fC ⟨#[104,101,97,100]⟩ ⟨#[]⟩ ⟨Rd.aI _ _ _,KD7.out.bP b8⟩);have KP8:=hid (KP7.out.bP b8);obtain ⟨Bh,hBh⟩:∃ Bh,Bh=w8.heap.size:=⟨_,rfl⟩;obtain ⟨wH,hwH⟩:∃ wH,wH=w8.alloc (.cells #[.string ⟨#[104,101,97,100]⟩,.string ⟨#[]⟩,.slice none 0 0,.slice (some ⟨p7,0,none⟩) 2 2] 35):=⟨_,rfl⟩;have bH:jNj w8.heap.size w8 wH:=by rw [hwH];exact (jK7 _ _).alloc (jK8 _) _
     have kH:CB 35 Bh [.string ⟨#[104,101,97,100]⟩,.string ⟨#[]⟩,.slice none 0 0,.slice (some ⟨p7,0,none⟩) 2 2] wH:=by rw [hwH,hBh];exact CB.new _ _ _
     have BH:=hid (q01 B8.out bH);have XHH:=hid (XH8.out.bP bH);have KPH:=hid (KP8.out.bP bH);have HCH:Hid (∀ y:jN9,jNj wH.heap.size wH y->y.cell? ⟨Bh,0,none⟩=some (.string ⟨#[104,101,97,100]⟩)/\y.cell? ⟨Bh,1,none⟩=some (.string ⟨#[]⟩)/\y.cell? ⟨Bh,2,none⟩=some (.slice none 0 0)/\y.cell? ⟨Bh,3,none⟩=some (.slice (some ⟨p7,0,none⟩) 2 2)):=fun y hy=>⟨(kH.below hy).cell 0 _ rfl,(kH.below hy).cell 1 _ rfl,(kH.below hy).cell 2 _ rfl,(kH.below hy).cell 3 _ rfl⟩
     clear b8 EC3 KD7 KP7 XH8 KP8 bH kH;go_upto_region 12 with (fail)
     rw [<- hwH,<- hBh];clear hwH hBh;refine q2s 8 (fun w'=>jNj wH.heap.size wH w') (by kernel_rfl) (jK7 _ _).drew ?_;intro hH;refine gP 0 rfl hH (by intro wv hSw;obtain ⟨c0,c1,c2,c3⟩:=HCH.out wv hSw;go_simp;try with_reducible rfl) ?_;refine gP 3 rfl hH (by intro wv hSw;obtain ⟨c0,c1,c2,c3⟩:=HCH.out wv hSw;go_simp;try with_reducible rfl) ?_;refine gP 4 rfl hH (by intro wv hSw;obtain ⟨c0,c1,c2,c3⟩:=HCH.out wv hSw;go_simp;try with_reducible rfl) ?_;obtain ⟨y0,hy0⟩:∃ y0,y0=wH.drew:=⟨_,rfl⟩;have B0y:jNj wH.heap.size wH y0:=by rw [hy0];exact (jK7 _ _).drew
     rw [<- hy0] at hH;rw [<- hy0];clear hy0;have LC2:Hid (Calls prog 41 #[.slice (some ⟨y0.heap.size,0,none⟩) 2 2] (y0.alloc (.cells #[.string ⟨#[108,97,110,103]⟩,.string lang] 9)) (bV (y0.alloc (.cells #[.string ⟨#[108,97,110,103]⟩,.string lang] 9)) [⟨jr,lang⟩])):=Zm jr lang y0;refine fK 1 fun KQ hK=>?_
     go_simp;have B1y:jNj wH.heap.size wH (y0.alloc (.cells #[.string ⟨#[108,97,110,103]⟩,.string lang] 9)):=B0y.alloc B0y.size _;refine dY hK B1y ?_;clear hK KQ hH;intro hH;refine fK 2 fun KQ hK=>?_
     go_simp;go_at_call 41
     (with_reducible refine (LC2.out).mono ?_)
     rintro e y2 ⟨bI,v2,rfl,hrow2⟩;obtain ⟨a9,c9,rfl,-,-⟩:=hrow2.cap (n:=1) rfl;have B2y:jNj wH.heap.size wH y2:=B1y.trans (hrow2.aY.mono B1y.size);have PR2:=hid (show Rd (W0.heap.size<=·) y2 (dx [⟨jr,lang⟩]) [.slice a9 1 c9] from hrow2.iZ.weaken (fun b hb=>jK9 BH.out.size (jK9 B1y.size hb)));clear hrow2 LC2;refine dY hK B2y ?_;clear hK KQ hH;intro hH;refine fK 5 fun KQ hK=>?_
     go_simp;go_at_call 40
     (with_reducible refine (ny ⟨#[98,111,100,121]⟩ none a3 0 n3 0 c3 y2).mono ?_)
     rintro e y3 ⟨rfl,hb⟩;have B3y:jNj wH.heap.size wH y3:=B2y.trans (hb.mono B2y.size);have PR3:=hid (PR2.out.bP hb);have KD3:=hid (Py (ok:=(W0.heap.size<=·)) (w:=y3) (x:=(aW jh [] [(aW ig [⟨GI,fP⟩] []),(aW fH [] (bY title))])) (y:=(aW fD [] (dL l))) (jK9 BH.out.size B3y.size) (XHH.out.bP B3y) (Nd.fC ⟨#[98,111,100,121]⟩ ⟨#[]⟩ ⟨Rd.aI _ _ _,KPH.out.bP B3y⟩));have HXK:=hid (show Rd (fun b=>W0.heap.size<=b/\b<y3.heap.size) y3 (dR [aW ig [⟨GI,fP⟩] [],aW fH [] (bY title)]) [.slice (some ⟨p7,0,none⟩) 2 2] from (jb6 (XHH.out.bP B3y)).inside);have HXA:=hid (show Rd (fun b=>W0.heap.size<=b/\b<y3.heap.size) y3 (dx [⟨jr,lang⟩]) [.slice a9 1 c9] from PR3.out.inside);clear hb PR2;refine dY hK B3y ?_;clear hK KQ hH;intro hH;refine fK 6 fun KQ hK=>?_
     go_simp;have bA:jNj y3.heap.size y3 (y3.alloc (.cells #[.string ⟨#[104,101,97,100]⟩,.string ⟨#[]⟩,.slice none 0 0,.slice (some ⟨p7,0,none⟩) 2 2,.string ⟨#[98,111,100,121]⟩,.string ⟨#[]⟩,.slice none 0 0,.slice a3 n3 c3] 35)):=(jK7 _ _).alloc (jK8 _) _;have B6y:jNj wH.heap.size wH (y3.alloc (.cells #[.string ⟨#[104,101,97,100]⟩,.string ⟨#[]⟩,.slice none 0 0,.slice (some ⟨p7,0,none⟩) 2 2,.string ⟨#[98,111,100,121]⟩,.string ⟨#[]⟩,.slice none 0 0,.slice a3 n3 c3] 35)):=B3y.trans (bA.mono B3y.size);have PR6:=hid (PR3.out.bP bA);have ju2:=hid (HXK.out.bP bA);have ju3:=hid (HXA.out.bP bA);have ju4:=hid (CB.new 35 [.string ⟨#[104,101,97,100]⟩,.string ⟨#[]⟩,.slice none 0 0,.slice (some ⟨p7,0,none⟩) 2 2,.string ⟨#[98,111,100,121]⟩,.string ⟨#[]⟩,.slice none 0 0,.slice a3 n3 c3] y3);have HY3:=hid B3y.size;obtain ⟨y6,hN⟩:∃ y6,y6=y3.alloc (.cells #[.string ⟨#[104,101,97,100]⟩,.string ⟨#[]⟩,.slice none 0 0,.slice (some ⟨p7,0,none⟩) 2 2,.string ⟨#[98,111,100,121]⟩,.string ⟨#[]⟩,.slice none 0 0,.slice a3 n3 c3] 35):=⟨_,rfl⟩;obtain ⟨p3,hf⟩:∃ p3,p3=y3.heap.size:=⟨_,rfl⟩;rw [<- hN,<- hf] at KD3;rw [<- hN] at PR6 B6y;have ju2:Hid (Rd (fun b=>W0.heap.size<=b/\b<p3) y6 (dR [aW ig [⟨GI,fP⟩] [],aW fH [] (bY title)]) [.slice (some ⟨p7,0,none⟩) 2 2]):=by show Rd _ _ _ _;rw [hf,hN];exact ju2.out
     have ju3:Hid (Rd (fun b=>W0.heap.size<=b/\b<p3) y6 (dx [⟨jr,lang⟩]) [.slice a9 1 c9]):=by show Rd _ _ _ _;rw [hf,hN];exact ju3.out
     have ju4:Hid (CB 35 p3 [.string ⟨#[104,101,97,100]⟩,.string ⟨#[]⟩,.slice none 0 0,.slice (some ⟨p7,0,none⟩) 2 2,.string ⟨#[98,111,100,121]⟩,.string ⟨#[]⟩,.slice none 0 0,.slice a3 n3 c3] y6):=by show CB _ _ _ _;rw [hf,hN];exact ju4.out
     have HY3:Hid (wH.heap.size<=p3):=by show _<=_;rw [hf];exact HY3.out
     rw [<- hN,<- hf];clear hN hf bA PR3;refine dY hK B6y ?_;clear hK KQ hH;intro hH;refine fK 7 fun KQ hK=>?_
     go_simp;go_at_call 40
     (with_reducible refine (ny ⟨#[104,116,109,108]⟩ a9 (some ⟨p3,0,none⟩) 1 2 c9 2 y6).mono ?_)
     rintro e y7 ⟨rfl,hb⟩;have B7y:jNj wH.heap.size wH y7:=B6y.trans (hb.mono B6y.size);have HN:=hid (show nC (W0.heap.size<=·) y7 [⟨jr,lang⟩] [(aW jh [] [(aW ig [⟨GI,fP⟩] []),(aW fH [] (bY title))]),(aW fD [] (dL l))] (.slice a9 1 c9) (.slice (some ⟨p3,0,none⟩) 2 2) from ⟨PR6.out.bP hb,KD3.out.bP hb⟩);have BL:=hid (q01 BH.out B7y);have jF6:=hid (ju2.out.bP hb);have jF7:=hid (ju3.out.bP hb);have jF8:=hid (ju4.out.below hb);clear hb PR6 KD3;refine dY hK B7y ?_;clear hK KQ hH;intro hH;refine fK 8 fun KQ hK=>?_
     obtain ⟨x0,x1,x2,x3,xf⟩:=Ep (K1.out.below BL.out);go_simp;clear x0 x1 x2 x3 xf;refine qB hK ?_;clear hK KQ hH;refine fK 9 fun KQ hK=>?_
     refine JE ?_;clear hK KQ;refine yF ?_;obtain ⟨w9,dB⟩:∃ w9,w9=four y7 (S+1) (.string ⟨#[104,116,109,108]⟩) (.string ⟨#[]⟩) (.slice a9 1 c9) (.slice (some ⟨p3,0,none⟩) 2 2):=⟨_,rfl⟩;have HX9:Hid (PgX w w9 title [⟨jr,lang⟩] (.slice a9 1 c9) (.slice (some ⟨p3,0,none⟩) 2 2)):=by
      have e1:=Z0.out;have e2:=BH.out.size;have e4:=HY3.out;have e5:=LU.out;refine ⟨p3,.slice (some ⟨p7,0,none⟩) 2 2,.slice a3 n3 c3,rfl,by omega,?_,?_,?_⟩
      ·rw [dB];exact (iH _ _ _ _ _ _ p3 (by omega)).trans jF8.out
      ·rw [dB];exact Rd.keep (fun b (hb:W0.heap.size<=b/\b<p3) _=>⟨⟨by omega,hb.2⟩,iH _ _ _ _ _ _ b (by omega)⟩) _ _ jF6.out
      ·rw [dB];exact Rd.keep (fun b (hb:W0.heap.size<=b/\b<p3) _=>⟨⟨by omega,hb.2⟩,iH _ _ _ _ _ _ b (by omega)⟩) _ _ jF7.out
     have hf:=gX ⟨#[104,116,109,108]⟩ ⟨#[]⟩ [⟨jr,lang⟩] [(aW jh [] [(aW ig [⟨GI,fP⟩] []),(aW fH [] (bY title))]),(aW fD [] (dL l))] LU.out Z0.out B0.out K1.out BL.out HN.out;rw [<- dB] at hf;refine xP ?_;clear hf dB;intro Db DR hw8;rw [<- hw8];clear hw8;go_wp2;have r0:=Db.out.cell 0 _ rfl;have r1:=Db.out.cell 1 _ rfl;have r2:=Db.out.cell 2 _ rfl;have r3:=Db.out.cell 3 _ rfl;exact bodyPost_ret (v:=.tuple #[.agg #[.string ⟨#[104,116,109,108]⟩,.string ⟨#[]⟩,.slice a9 1 c9,.slice (some ⟨p3,0,none⟩) 2 2],.int .i64 (0)]) (by simp [results,results16,go_sem,r0,r1,r2,r3]) rfl (by rw [HPF.out,H0.out];exact kY.of DR.out (by simp) (fun _ va vk e=>by
      simp only [Value.agg.injEq,Array.mk.injEq,List.cons.injEq,and_true] at e;obtain ⟨-,-,rfl,rfl⟩:=e;exact HX9.out))
    ·have q2:((EB:Int) != 0)=true:=by rw [bne_iff_ne];omega
     have HPZ:=hid (show pgN me l title lang=nG by rw [HPN.out,if_neg (by rw [HEB.out];exact hB0)]);refine jj5 ?_;intro x0 x1 x2 x3 xf w9 dB hf;refine xP ?_;clear hf dB;intro Db DR hw8;go_wp2;refine uo ?_;intro r0 r1 r2 r3;exact bodyPost_ret (v:=.tuple #[.agg #[.string ⟨#[]⟩,.string ⟨#[]⟩,.slice none 0 0,.slice none 0 0],.int .i64 (EB)]) (by simp [results,results16,go_sem,r0,r1,r2,r3]) rfl (by rw [HPZ.out,HEB.out];exact kY.of DR.out (by simp) (fun h=>absurd h hB0))
 ·have q1:((E0:Int) != 0)=true:=by rw [bne_iff_ne];omega
  have HE9:=hid (show EE=E0 by rw [LZ.out,if_pos h0]);have HPZ:=hid (show pgN me l title lang=nG by rw [HPN.out,if_neg (by rw [HE9.out];exact h0)]);obtain ⟨x0,x1,x2,x3,xf⟩:=Ep (K1.out.below B1.out);obtain ⟨w9,dB⟩:∃ w9,w9=four w1 (S+1) (.string ⟨#[]⟩) (.string ⟨#[]⟩) (.slice none 0 0) (.slice none 0 0):=⟨_,rfl⟩;have hf:=gX ⟨#[]⟩ ⟨#[]⟩ [] [] LU.out Z0.out B0.out K1.out B1.out ⟨Rd.aI _ _ _,Rd.aI _ _ _⟩;rw [<- dB] at hf;refine xP ?_;clear hf dB;intro Db DR hw8;go_wp2;refine uo ?_;intro r0 r1 r2 r3;exact bodyPost_ret (v:=.tuple #[.agg #[.string ⟨#[]⟩,.string ⟨#[]⟩,.slice none 0 0,.slice none 0 0],.int .i64 (E0)]) (by simp [results,results16,go_sem,r0,r1,r2,r3]) rfl (by rw [HPZ.out,HE9.out];exact kY.of DR.out (by simp) (fun h=>absurd h h0))
open Go.RowKit
theorem He:∀ (l:List ah),ah.ay l↔∀ b∈l,b.small
 | []=>by unfold ah.ay;simp
 | x::l=>by rw [ah.ay,He l];simp
theorem Kj:∀ (L:List (List ah)) (s:List ah),s∈L->(ah.aJ s).length<=(ah.aJ L.flatten).length
 | [],_,h=>by cases h
 | x::L,s,h=>by
  rw [List.flatten_cons,ah.lV,jKq];rcases List.mem_cons.1 h with rfl | h
  ·omega
  ·have:=Kj L s h;omega
theorem Xb (l:List ah):∀ p∈eP l,(ah.aJ p.bl).length<=(ah.aJ l).length:=by
 intro p hp;rw [oL] at hp;obtain ⟨s,hs,rfl⟩:=List.mem_map.1 hp;have h1:=Kj _ s hs;rw [pV l.length l (jK8 _)] at h1;rw [yV];refine jK9 ?_ h1;unfold DV;split
 ·split
  ·rw [ah.aJ,jKq];omega
  ·exact jK8 _
 ·exact jK8 _
theorem Xc (l:List ah) (h:ah.ay l):∀ p∈eP l,ah.ay p.bl:=fun p hp=>(He _).2 fun b hb=>(He _).1 h b (Kk l p hp b hb)
theorem Xd {l:List ah} (h:Fh l=0):∀ p∈eP l,Fh p.bl=0:=by intro p hp;rw [oL] at hp;obtain ⟨s,hs,rfl⟩:=List.mem_map.1 hp;obtain ⟨h1,h2⟩:=uQ h;obtain ⟨h3,h4⟩:=Nf fZ l h1 (by rw [ah.iO];exact h2) s hs;rw [ah.iO] at h4;rw [yV];unfold Fh;rw [if_neg (by rw [h3];simp),h4];rfl
theorem aC.jA6 (w:jN9) (p:Pr):Rd (w.heap.size<=·) (w.alloc (.cells #[.string p.key,.string p.val] 61)) (dx [p]) [.slice (some ⟨w.heap.size,0,none⟩) 1 1]:=
 Rd.slB (rows:=[[.string p.key,.string p.val]]) (l:=[p.d]) (jK8 _) (by decide) (aO.one (Pr.fC _ _ p)) (by simp) (jK8 _) (by rw [jL5];omega)
  (fun j u hu=>(CB.new 61 [.string p.key,.string p.val] w).cell j u (by simpa using hu))
def spN (me:List Pr) (l:List ah) (title lang:ByteArray):Nd:=if G9 me l title lang=0 then yH title lang (ES l) else nG
def Xe (w4:jN9) (P:List Pt) (v vi:Value) (wr:jN9):Prop:=∃ (k:Nat) (rows:List (List Value)),k<=P.length/\vi=.int .i64 k/\aC 35 4 (fun _=>False) wr.heap.size w4 (((P.take k).map (fun p=>rQ p.bl)).map Nd.d) rows v wr
def Xf (wA:jN9) (p3:Nat) (V:Value) (vi:Value) (wr:jN9):Prop:=∃ k:Nat,k<=2/\vi=.int .i64 k/\(k<=1->wr=wA)/\(k=2->wr=wA.setCell ⟨p3,7,none⟩ V)
theorem jj6{P Q:Prop}(q:Q)(h:Nonempty Q->P:=by
 intro qQ;obtain ⟨Bp,yT⟩:∃ Bp,Bp=w2.heap.size:=⟨_,rfl⟩;obtain ⟨w3,hw3⟩:∃ w3,w3=w2.alloc (.cells #[.string xn,.string xt,.slice aA nA cA,.slice aK nK cK] 35):=⟨_,rfl⟩;have k3:CB 35 Bp [.string xn,.string xt,.slice aA nA cA,.slice aK nK cK] w3:=by rw [hw3,yT];exact CB.new _ _ _
 have Y6:jNj w2.heap.size w2 w3:=by rw [hw3];exact (jK7 _ _).alloc (jK8 _) _
 revert Bp yT w3 hw3 k3 Y6;exact qQ.elim fun x=>x):P:=h ⟨q⟩
theorem wK (me:List Pr) (l:List ah) (title lang:ByteArray) (vm vb:Value) (w:jN9) (hm:Rd (·<w.heap.size) w (dx me) [vm]) (hb:Rd (·<w.heap.size) w (iC l) [vb]) (hme:me.length<=1000) (gU:∀ p∈me,p.key.size<=1000/\p.val.size<=1000) (hall:ah.bU l<=32768) (hsm:ah.ay l) (hsz:ah.aU l<=900000) (hil:(ah.aJ l).length<=1000) (hbd:ah.mh l) (hti:title.size<=300) (hla:lang.size<=300) (ht:PT w) : Calls prog 23 #[.agg #[vm,vb],.string title,.string lang] w (AO w (G9 me l title lang) (spN me l title lang)):=by
 obtain ⟨am,nm,cm,rfl⟩:=Rd.au hm;obtain ⟨ab,nb,cb,rfl⟩:=Rd.au hb;obtain ⟨iN,LJ,qx,qz,qA⟩:=info_parts oC;obtain ⟨S,W0,hS,hW0,z0,k0,k1,b0⟩:=vT 26 w [.slice am nm cm,.slice ab nb cb];have RP:jNj w.heap.size w W0:=by rw [<- hS];exact b0
 have PC:=hid (Nu me l title lang _ _ W0 (hm.up RP) (hb.up RP) hme gU hall hsm hsz hil hbd hti hla (ht.below RP));have HB:=hid hb;have ou:Hid (∀ W,jNj w.heap.size w W->PT W):=fun W hW=>ht.below hW
 have LU:=hid hS;have HW0:=hid hW0;have Z0:=hid z0;have B0:=hid b0;have B0w:=hid RP;have K1:=hid k1;refine Xa ?_;intro X0 x0 x1;have hP1:=Kl l;have hP2:=Xb l;have hP3:=Xc l hsm;have hP4:=Km l hbd;have hP5:=Fu l;have hP6:=fun h=>Xd (l:=l) h
 have hll:=ah.dI l;have hbe:G9 me l title lang=0->Fh l=0:=fun h=>WV h
 obtain ⟨E,hE⟩:∃ E,E=G9 me l title lang:=⟨_,rfl⟩;obtain ⟨X,hX⟩:∃ X,X=pgN me l title lang:=⟨_,rfl⟩;have TP:X=if E=0 then yH title lang (dL l) else nG:=by rw [hX,hE];rfl
 have hsp:spN me l title lang=if E=0 then yH title lang (ES l) else nG:=by rw [hE];rfl
 rw [<- hE,<- hX] at PC;rw [<- hE] at hbe;rw [<- hE];obtain ⟨Z,hZ⟩:∃ Z,Z=spN me l title lang:=⟨_,rfl⟩;rw [<- hZ];have HZZ:Hid (Z=if E=0 then yH title lang (ES l) else nG):=by show _=_;rw [hZ,hsp]
 have HBE:=hid hbe;have Y7:=hid hP1;have Rh:=hid hP2;have HPS:=hid hP3;have HP4:=hid hP4;have HP6:=hid hP6;have HP5:Hid ((eP l).length<=900001):=by show _<=_;omega
 have HLL:Hid (l.length<=900000):=by show _<=_;omega
 have O5:=hid hsz;have HIL:=hid hil;have HXE:=hid TP;clear hm hb hme gU hall hsm hsz hil hbd hti hla ht hS hW0 z0 k0 k1 b0 RP hP1 hP2 hP3 hP4 hP5 hP6 hll hbe hE hX TP hsp hZ;go_enter func23,ntmps23;go_upto_region 1 with (fail)
 rw [<- LU.out];refine Pq ?_;obtain ⟨xn,xt,xa,xk⟩:=X;go_wp2_with fail
 (with_reducible refine PC.out.mono ?_)
 rintro e w2 ⟨va,vk,he,hN,b2,hx2⟩;obtain ⟨aA,nA,cA,rfl⟩:=Rd.au hN.at_
 obtain ⟨aK,nK,cK,rfl⟩:=Rd.au hN.ks;have he:e=.returned (.tuple #[.agg #[.string xn,.string xt,.slice aA nA cA,.slice aK nK cK],.int .i64 (E:Int)]):=he;subst he;refine jj6 ?_;intro Bp yT w3 hw3 k3 Y6;have B3:=hid (q01 b2 Y6);have HB2:=hid b2;have B23:=hid Y6;have K3:=hid k3;have HBP:=hid yT;have HX2:=hid hx2;clear x0 x1 hN b2 Y6 k3 PC hx2;go_upto_region 2 with (fail)
 rw [<- hw3,<- yT];clear hw3 yT;by_cases h0:E=0
 ·have hz:Z=yH title lang (ES l):=by rw [HZZ.out,if_pos h0]
  have HZ0:=hid hz;have hXf:Nd.mk xn xt xa xk=yH title lang (dL l):=by rw [HXE.out,if_pos h0]
  obtain ⟨rfl,rfl,rfl,rfl⟩:xn=lX/\xt=⟨#[]⟩/\xa=[⟨jr,lang⟩]/\xk=[aW jh [] [aW ig [⟨GI,fP⟩] [],aW fH [] (bY title)],aW fD [] (dL l)]:=by have h:=hXf;unfold yH aW at h;simpa [aW] using h
  have hx:=HX2.out h0;obtain ⟨p3,kh,bv,hvk,hp3,hCB,hKH,hAT⟩:=hx;have jA7:Hid (p3<Bp):=by show _<_;rw [HBP.out];exact (Array.getElem?_eq_some_iff.1 hCB).1
  obtain ⟨rfl,rfl,rfl⟩:aK=some ⟨p3,0,none⟩/\nK=2/\cK=2:=by simpa using hvk
  have hbs:=HBE.out h0;have W9:=hid hbs;have q0:((E:Int) != 0)=false:=by rw [h0];rfl
  have HE0:=hid h0;have xQ:=hid (CB.below hCB B23.out);have HKH:=hid (Rd.bP hKH B23.out);have HAT:=hid (Rd.bP hAT B23.out);have MZ:=hid hp3;have PA:=hid (Fv l _ w3 (HB.out.up (B0w.out.trans (B3.out.mono B0w.out.size))) (by have:=HLL.out;omega));obtain ⟨P,hP⟩:∃ P,P=eP l:=⟨_,rfl⟩;rw [<- hP] at PA;have HPP:=hid hP;have x1:=X0.out w3 B3.out;clear hz hXf hvk hp3 hCB hKH hAT hbs h0 hP HX2;go_wp2_with fail
  (with_reducible refine PA.out.mono ?_)
  rintro e w4 ⟨v4,rfl,h4,b4⟩;obtain ⟨a4,c4,hv4,hs4⟩:=Rd.aB h4;obtain ⟨nP,L6⟩:∃ nP,nP=P.length:=⟨_,rfl⟩;obtain rfl:v4=.slice a4 nP c4:=by rw [L6];simpa using hv4
  have hc4:nP<=c4:=by rw [L6];simpa using hs4.le
  have YV:=hs4.max;unfold maxLen at YV;have hnp:nP<=900001:=by rw [L6,HPP.out];exact HP5.out
  have TQ:=hid L6;have HS4:=hid hs4;have B4:=hid (q01 B3.out b4);have B34:=hid b4;have R0:Hid (Xe w4 P (.slice none 0 0) (.int .i64 0) w4):=⟨0,[],Nat.zero_le _,rfl,aC.nil _ _ _ _⟩;clear hv4 h4 hs4 b4 L6 PA x1;go_wp2
  go_loopw [10,32] (fun v vi wr=>Xe w4 P v vi wr) (fun _ i _=>nP-(intOf i).toNat)
  case atStart=>exact R0.out
  case round=>
   clear R0;obtain ⟨k,rows,hk,rfl,hR⟩:=hrel;obtain ⟨nv,DK⟩:∃ nv,nv=(((P.take k).map (fun p=>rQ p.bl)).map Nd.d).length:=⟨_,rfl⟩;obtain ⟨av,cv,rfl,hcv,hcm⟩:=hR.cap DK.symm;unfold maxLen at hcm;have jF9:nv<=900001:=by have:=TQ.out;rw [DK,jKx,jKx,List.length_take];omega
   have HNV:=hid DK.symm;have hbel:=hR.aY;have HRW:=hid hR;clear hR DK;by_cases hlt:k<nP
   ·obtain ⟨x,hx⟩:∃ x,P[k]?=some x:=⟨_,List.getElem?_eq_getElem (by have:=TQ.out;omega)⟩;have hxm:x∈eP l:=by rw [<- HPP.out];exact List.mem_of_getElem? hx
    obtain ⟨b,off,ha,hok,hb,hcx⟩:=HS4.out.at_ (by rw [jKx];have:=TQ.out;omega)
    subst ha;obtain ⟨r,hr,hrl,hcell⟩:=hcx k x.d (by rw [List.getElem?_map,hx];rfl);obtain ⟨vbl,rfl,hbl⟩:=Pt.open_ hr;obtain ⟨al,nl,cl,rfl⟩:=Rd.au hbl;have c0:wr.cell? ⟨b,off+k*2,none⟩=some (.bool x.ti):=(hbel.cell (p:=⟨_,_,none⟩) hb).trans (hcell 0 _ rfl);have c1':wr.cell? ⟨b,off+k*2+1,none⟩=some (.slice al nl cl):=(hbel.cell (p:=⟨_,_,none⟩) hb).trans (hcell 1 _ rfl);obtain ⟨q,hq⟩:∃ q,q=wr.heap.size:=⟨_,rfl⟩;obtain ⟨tb,htb⟩:∃ tb,tb=x.ti:=⟨_,rfl⟩;rw [<- htb] at c0;obtain ⟨w5,MN⟩:∃ w5,w5=wr.alloc (.cells #[.bool tb,.slice al nl cl] 96):=⟨_,rfl⟩;have k5:CB 96 q [.bool tb,.slice al nl cl] w5:=by rw [MN,hq];exact CB.new _ _ _
    have b5:jNj wr.heap.size wr w5:=by rw [MN];exact (jK7 _ _).alloc (jK8 _) _
    have B5:=q01 hbel b5;have B5w:jNj w.heap.size w w5:=q01 (q01 B0w.out B4.out) B5;have BC:=Qc x.bl (.slice al nl cl) w5 (hbl.up B5) (HPS.out x hxm) (by have:=Y7.out x hxm;have:=O5.out;omega) (by have:=Rh.out x hxm;have:=HIL.out;omega) (HP4.out x hxm) (ou.out _ B5w);have hbx:=HP6.out W9.out x hxm;have hbn:bsN x.bl=dL x.bl:=by unfold bsN;rw [if_pos hbx]
    rw [hbx,hbn] at BC;have vL:=hid BC;have HQ:=hid hq;have HX:=hid hx;have pJ:=hid b5;have e1:=k5.cell 1 _ rfl;clear hr hcell hrl hbl hok hb hx hxm hcx k5 b5 B5 B5w BC hbx hbn htb hq;go_upto_region 8 with (fail)
    rw [<- MN];simp only [<- HQ.out];clear MN c0 c1';go_wp2_with fail
    (with_reducible refine vL.out.mono ?_)
    rintro e w6 ⟨jA5,v6,rfl,Ig⟩;obtain ⟨a6,n6,c6,rfl⟩:=Ig.slice3;obtain ⟨p7,hp7⟩:∃ p7,p7=w6.heap.size:=⟨_,rfl⟩;obtain ⟨w7,hw7⟩:∃ w7,w7=w6.alloc (.cells #[.string ⟨#[99,108,97,115,115]⟩,.string ⟨#[115,108,105,100,101]⟩] 61):=⟨_,rfl⟩;have b7:jNj w6.heap.size w6 w7:=by rw [hw7];exact (jK7 _ _).alloc (jK8 _) _
    have B7:=pJ.out.trans ((Ig.aY.trans (b7.mono Ig.aY.size)).mono pJ.out.size);have jFj:wr.heap.size<=p7:=by have:=pJ.out.size;have:=Ig.aY.size;omega
    have jA8:Rd (fun b=>False\/wr.heap.size<=b) w7 (dx [⟨gV,AY⟩]) [.slice (some ⟨p7,0,none⟩) 1 1]:=by have h:=aC.jA6 w6 ⟨gV,AY⟩;rw [hw7,hp7];exact h.weaken (fun b hb=>.inr (by omega))
    have jA9:Rd (fun b=>False\/wr.heap.size<=b) w7 (dR (dL x.bl)) [.slice a6 n6 c6]:=(Ig.iZ.bP b7).weaken (fun b hb=>.inr (by have:=pJ.out.size;omega));have HX7:=hid (Nd.fC eu ⟨#[]⟩ ⟨jA8,jA9⟩);have HR7:=hid (HRW.out.below B7);have HQ7:=hid hp7;clear Ig b7 B7 jA8 jA9 hp7 jFj vL e1;go_upto_region 12 with (fail)
    rw [<- hw7];simp only [<- HQ7.out];clear hw7;go_wp2_with (at_builtin;refine fF (n:=nv) rfl _ _ 28 rfl iN _ 80 underlying28 LJ qx qz qA rfl (by decide) HR7.out (fun b hb=>hb.elim) (rQ x.bl).d [.string ⟨#[115,101,99,116,105,111,110]⟩,.string ⟨#[]⟩,.slice (some ⟨p7,0,none⟩) 1 1,.slice a6 n6 c6] HX7.out rfl kR HNV.out (by omega) (by decide) rfl rfl ?_)
    intro a8 c8 w8 Fq hg8;have hf:Xe w4 P (.slice a8 (nv+1) c8) (.int .i64 ((k+1:Nat):Int)) w8:=by
     refine ⟨k+1,rows++[[.string ⟨#[115,101,99,116,105,111,110]⟩,.string ⟨#[]⟩,.slice (some ⟨p7,0,none⟩) 1 1,.slice a6 n6 c6]],by have:=TQ.out;omega,rfl,?_⟩;have e:((P.take (k+1)).map (fun p=>rQ p.bl)).map Nd.d=List.take k (List.map (Nd.d ∘ fun p=>rQ p.bl) P)++[(rQ x.bl).d]:=by rw [List.take_add_one,HX.out];simp
     rw [e];exact Fq
    have HF:=hid hf;clear Fq hg8 hf;exact tL
   ·obtain ⟨wA,hA⟩:∃ wA,wA=wr:=⟨_,rfl⟩;subst hA;have hkl:k=P.length:=by have:=TQ.out;omega
    have hrow:aC 35 4 (fun _=>False) wA.heap.size w4 ((ES l).map Nd.d) rows (.slice av nv cv) wA:=by have h:=HRW.out;rw [hkl,List.take_length,HPP.out,mR] at h;exact h
    have Xg:=q01 B34.out hbel;have HRO:=hid hrow.iZ;have HK3:=hid (K3.out.below Xg);have HCR:=hid (xQ.out.below Xg);have HKR:=hid (HKH.out.bP Xg);have HAR:=hid (HAT.out.bP Xg);have HBR:=hid (q01 B4.out hbel);have HBZ:Hid (Bp<w4.heap.size):=by show _<_;have h1:=(Array.getElem?_eq_some_iff.1 K3.out).1;have:=B34.out.size;omega
    have I8:Hid (Bp<wA.heap.size):=by show _<_;exact (Array.getElem?_eq_some_iff.1 HK3.out).1
    have e3:=HK3.out.cell 3 _ rfl;have R1:Hid (Xf wA p3 (.slice av nv cv) (.int .i64 0) wA):=⟨0,by omega,rfl,fun _=>rfl,by omega⟩;clear hkl hrow Xg hbel HRW;go_wp2
    go_loopw [58] (fun vi wr=>Xf wA p3 (.slice av nv cv) vi wr) (fun i _=>2-(intOf i).toNat)
    case atStart=>exact R1.out
    case round=>
     clear R1;obtain ⟨j,hj,rfl,hj1,hj2⟩:=hrel;rcases (by omega:j=0\/j=1\/j=2) with rfl | rfl | rfl
     ·obtain rfl:=hj1 (by omega);have e0:=HCR.out.cell 0 _ rfl;have hq:(jh.toList==[98,111,100,121])=false:=by kernel_rfl
      go_wp2;clear hq;go_roundw;case rel=>exact ⟨1,by omega,rfl,fun _=>rfl,by omega⟩
      case measure=>simp [intOf]
     ·obtain rfl:=hj1 (by omega);have e4:=HCR.out.cell 4 _ rfl;have e7:=HCR.out.cell 7 _ rfl;have hf:=Aj HCR.out;have hq:(fD.toList==[98,111,100,121])=true:=by kernel_rfl
      go_wp2;clear hq;go_roundw;case rel=>exact ⟨2,by omega,rfl,by omega,fun _=>rfl⟩
      case measure=>simp [intOf]
     ·have hwx:=hj2 rfl;have HWX:=hid hwx;have hb:jNj wA.heap.size wA wA:=jK7 _ _;have keep:∀ b,b≠p3->wr.heap[b]?=wA.heap[b]?:=fun b hb=>by rw [hwx];exact Below.heap_setCell wA ⟨p3,7,none⟩ _ b hb
      have hzx:wr.heap.size=wA.heap.size:=by rw [hwx];simp [World.setCell]
      have hCX:CB 35 p3 [.string jh,.string ⟨#[]⟩,.slice none 0 0,kh,.string fD,.string ⟨#[]⟩,.slice none 0 0,.slice av nv cv] wr:=by rw [hwx];exact dS HCR.out 7 _
      have hKX:CB 35 Bp [.string lX,.string ⟨#[]⟩,.slice aA nA cA,.slice (some ⟨p3,0,none⟩) 2 2] wr:=(keep Bp (by have:=jA7.out;omega)).trans HK3.out;have hp3:=MZ.out;have hs4:=HBR.out.size;have hbx:jNj W0.heap.size W0 wr:=by rw [hwx];exact HBR.out.setCell (p:=⟨p3,7,none⟩) hp3 _
      have hpl:=jA7.out;have hbz:=HBZ.out;have hNR:nC (W0.heap.size<=·) wr [⟨jr,lang⟩] [aW jh [] [aW ig [⟨GI,fP⟩] [],aW fH [] (bY title)],aW fD [] (ES l)] (.slice aA nA cA) (.slice (some ⟨p3,0,none⟩) 2 2):=by
       refine ⟨Rd.keep (fun b (hb:W0.heap.size<=b/\b<p3) _=>⟨hb.1,keep b (by omega)⟩) _ _ HAR.out,?_⟩;have r1:Rd (W0.heap.size<=·) wr (aW jh [] [aW ig [⟨GI,fP⟩] [],aW fH [] (bY title)]).d [.string jh,.string ⟨#[]⟩,.slice none 0 0,kh]:=
        Nd.fC jh ⟨#[]⟩ ⟨Rd.aI _ _ _,Rd.keep (fun b (hb:W0.heap.size<=b/\b<p3) _=>⟨hb.1,keep b (by omega)⟩) _ _ HKR.out⟩
       have r2:Rd (W0.heap.size<=·) wr (aW fD [] (ES l)).d [.string fD,.string ⟨#[]⟩,.slice none 0 0,.slice av nv cv]:=
        Nd.fC fD ⟨#[]⟩ ⟨Rd.aI _ _ _,Rd.keep (fun b (hb:w4.heap.size<=b) _=>⟨by have:=B4.out.size;omega,keep b (by omega)⟩) _ _ HRO.out⟩
       exact Rd.slB (rows:=[[.string jh,.string ⟨#[]⟩,.slice none 0 0,kh],[.string fD,.string ⟨#[]⟩,.slice none 0 0,.slice av nv cv]]) (l:=[(aW jh [] [aW ig [⟨GI,fP⟩] [],aW fH [] (bY title)]).d,(aW fD [] (ES l)).d]) (jK8 _) (by decide) (aO.cons r1 (aO.one r2)) (by simp) hp3 (by have:=I8.out;omega)
        (fun j u hu=>hCX.cell j u (by simpa using hu))
      obtain ⟨w9,dB⟩:∃ w9,w9=four wr (S+1) (.string lX) (.string ⟨#[]⟩) (.slice aA nA cA) (.slice (some ⟨p3,0,none⟩) 2 2):=⟨_,rfl⟩;have hf:=gX lX ⟨#[]⟩ [⟨jr,lang⟩] [aW jh [] [aW ig [⟨GI,fP⟩] [],aW fH [] (bY title)],aW fD [] (ES l)] LU.out Z0.out B0.out K1.out hbx hNR;rw [<- dB] at hf;have Db:=hid hf.1;have DR:=hid hf.2;obtain ⟨x0,x1,x2,x3,xf⟩:=Ep (K1.out.below hbx);have c0:=hKX.cell 0 _ rfl;have c1:=hKX.cell 1 _ rfl;have c2:=hKX.cell 2 _ rfl;have c3:=hKX.cell 3 _ rfl;clear hf hNR hbx hpl hbz hs4 hp3 hKX hCX hzx keep hb hwx hj1 hj2 e3;have hw8:=dB;simp only [four] at hw8;clear dB;go_wp2;refine uo ?_;intro r0 r1 r2 r3;exact bodyPost_ret (v:=.tuple #[.agg #[.string lX,.string ⟨#[]⟩,.slice aA nA cA,.slice (some ⟨p3,0,none⟩) 2 2],.int .i64 (0)]) (by simp [results,results23,go_sem,r0,r1,r2,r3]) rfl (by rw [HZ0.out,HE0.out];exact AO.of DR.out (by simp))
 ·have q0:((E:Int) != 0)=true:=by rw [bne_iff_ne];omega
  have hz:Z=nG:=by rw [HZZ.out,if_neg h0]
  have HZ0:=hid hz;clear hz;refine jj5 ?_;intro x0 x1 x2 x3 xf w9 dB hf;have Db:=hid hf.1;have DR:=hid hf.2;clear hf h0;have hw8:=dB;simp only [four] at hw8;clear dB;go_wp2;refine uo ?_;intro r0 r1 r2 r3;exact bodyPost_ret (v:=.tuple #[.agg #[.string ⟨#[]⟩,.string ⟨#[]⟩,.slice none 0 0,.slice none 0 0],.int .i64 (E)]) (by simp [results,results23,go_sem,r0,r1,r2,r3]) rfl (by rw [HZ0.out];exact AO.of DR.out (by simp))
open Go.RowKit
open Go.RowKit
open Go.RowKit
mutual
theorem ah.ei:∀ b:ah,∀ x∈b.each,(ah.aG x.kids).length<=b.each.length/\(ah.aJ x.kids).length<=b.inls.length
 | .mk k lv i t d ti a li ks,x,hx=>by
  rw [ah.each] at hx ⊢;rw [ah.inls,jKz,jKq];rcases List.mem_cons.1 hx with rfl | hx
  ·exact ⟨by show (ah.aG ks).length<=_;omega,by show (ah.aJ ks).length<=_;omega⟩
  ·have:=ah.eiL ks x hx;omega
theorem ah.eiL:∀ l:List ah,∀ x∈ah.aG l,(ah.aG x.kids).length<=(ah.aG l).length/\(ah.aJ x.kids).length<=(ah.aJ l).length
 | [],x,hx=>by rw [ah.aG] at hx;cases hx
 | b::l,x,hx=>by
  rw [ah.aG] at hx ⊢;rw [ah.aJ,jKq,jKq];rcases List.mem_append.1 hx with hx | hx
  ·have:=ah.ei b x hx;omega
  ·have:=ah.eiL l x hx;omega
end
end Go.Proofs.YtkfnkeflalcphaaGreatDoor

