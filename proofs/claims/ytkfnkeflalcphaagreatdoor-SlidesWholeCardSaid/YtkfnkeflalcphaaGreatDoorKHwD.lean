/- Contracts of html.Line and publisherref34.Line. Plain part: the errors and the nodes of Blocks and Page; the small case of layer 34. What the statements of layer 34 share: text, same, has; Small at a document with one block that has a line only. Plain part: the notes of a well-formed document: what the walks ask of their blocks. Contract of html.Blocks: the nodes of blocks, with their notes behind them, or the error. Contract of html.Page: the page of a document, or the error. The small case with which each statement of layer 34 ends: it answers true. Plain part: what the walk of publisherref34.block asks of a block; a well-formed, small document without unresolved inlines has it. Plain part: what the walk of the reference asks of the blocks of a well-formed document, and of its notes. Contracts of publisherref34.table, and of publisherref34.block at a table. Contracts of publisherref34.block and publisherref34.inner: the nodes of blocks. Contract of publisherref34.Blocks: the nodes of blocks, with their notes behind them, or the error. Contracts of publisherref34.line, Errors, Frame and Page. The walk of publisherlaw34.HtmlBlocks. -/
import Derived.Test.YtkfnkeflalcphaaGreatDoorKRpF
import Derived.Test.YtkfnkeflalcphaaGreatDoorKHtY
set_option maxHeartbeats 8000000
set_option maxRecDepth 100000
open Go.Lib (hid)
namespace Go.Proofs.YtkfnkeflalcphaaGreatDoor
open List renaming setIfInBounds_toArray->jj4,set_cons_zero->jj5,set_cons_succ->jj6,length_map->jjz
open Go.RowKit.Below renaming refl->jj8
open Nat renaming le_refl->jj9,le_trans->jjj
open Go.World renaming size_alloc->jk6
open Go renaming World->jmj
open Go.RowKit renaming Below->jmk
open Go.RowKit
set_option linter.unusedVariables false
set_option linter.unusedSimpArgs false
def gT (w:jmj) (E:Nat) (L:List Nd) (e:Ending) (w':jmj):Prop:=
 ∃ rows v,e=.returned (.tuple #[v,.int .i64 (E:Int)])/\aC 35 4 (fun _=>False) w'.heap.size w (L.map Nd.d) rows v w'
theorem gT.nil {w w':jmj} {E:Nat} {L:List Nd} (hL:L=[]) (h:jmk w.heap.size w w'):gT w E L (.returned (.tuple #[.slice none 0 0,.int .i64 (E:Int)])) w':=by subst hL;exact ⟨[],_,rfl,((aC.nil _ _ _ w).below h).top⟩
def zx (l:List ah):Nat:=if ah.aT pX 0 0 l≠0 then ah.aT pX 0 0 l else if (ah.aU l).any iQ=true then 5 else 0
def Td (l:List ah):List Nd:=if zx l=0 then eG l else []
def JY (me:List Pr) (l:List ah) (title lang:ByteArray):Nat:=
 if iH pX me l≠0 then iH pX me l else if iE title=false then 17 else if jD lang=false then 6 else if (ah.aU l).any iQ=true then 5 else 0
def mP:Nd:=.mk ⟨#[]⟩ ⟨#[]⟩ [] []
def Te (me:List Pr) (l:List ah) (title lang:ByteArray):Nd:=if JY me l title lang=0 then eU title lang (eG l) else mP
theorem ML {me:List Pr} {l:List ah} (h:iH pX me l=0):ah.aT pX 0 0 l=0:=by
 unfold iH at h;split at h
 ·cases h
 ·split at h
  ·rename_i h1;exact absurd h h1
  ·exact h
theorem vJ {l:List ah} (h:zx l=0):ah.aT pX 0 0 l=0/\(ah.aU l).any iQ=false:=by
 unfold zx at h;split at h
 ·rename_i h1;exact absurd h h1
 ·rename_i h1
  split at h
  ·cases h
  ·rename_i h2
   exact ⟨Classical.not_not.1 h1,by simpa using h2⟩
theorem MN {me:List Pr} {l:List ah} {title lang:ByteArray} (h:JY me l title lang=0):iH pX me l=0/\iE title=true/\jD lang=true/\(ah.aU l).any iQ=false:=by
 unfold JY at h;split at h
 ·rename_i h1;exact absurd h h1
 ·rename_i h1
  split at h
  ·cases h
  ·rename_i h2
   split at h
   ·cases h
   ·rename_i h3
    split at h
    ·cases h
    ·rename_i h4
     exact ⟨Classical.not_not.1 h1,by simpa using h2,by simpa using h3,by simpa using h4⟩
theorem VB {me:List Pr} {l:List ah} {title lang:ByteArray} (h:JY me l title lang=0):zx l=0:=by obtain ⟨h1,-,-,h4⟩:=MN h;unfold zx;rw [if_neg (by rw [ML h1];simp),h4];rfl
theorem JZ (s:ByteArray):(((At.err ⟨⟨#[]⟩,[],[⟨⟨#[116,105,116,108,101]⟩,s⟩]⟩:Nat):Int)==0)=iE s:=by
 have h1:jD (⟨#[116,105,116,108,101]⟩:ByteArray)=true:=by decide +kernel
 have h2:dK [] [⟨⟨#[116,105,116,108,101]⟩,s⟩]=if iE s=false then 17 else 0:=by
  rw [dK,h1];have h0:hasB [] (⟨#[116,105,116,108,101]⟩:ByteArray)=false:=rfl;rw [if_neg (by decide),h0];split
  ·rfl
  ·rfl
 cases hs:iE s with
 | true=>
  rw [hs] at h2;have h3:At.err ⟨⟨#[]⟩,[],[⟨⟨#[116,105,116,108,101]⟩,s⟩]⟩=0:=by unfold At.err;rw [h2];rfl
  rw [h3];rfl
 | false=>
  rw [hs] at h2;have h3:At.err ⟨⟨#[]⟩,[],[⟨⟨#[116,105,116,108,101]⟩,s⟩]⟩=17:=by unfold At.err;rw [h2];rfl
  rw [h3];rfl
theorem Qy {l:List ah} (h:zx l=0):ah.su l:=by obtain ⟨h1,h2⟩:=vJ h;exact ah.nN pX l 0 0 (by decide) (by decide) h1 (by rw [ah.jd];exact h2)
def eAt:At:=⟨⟨#[]⟩,[],[]⟩
def Qz (t:ByteArray):aj:=.mk 1 t ⟨#[]⟩ ⟨#[]⟩ eAt [] [] []
theorem YZ:JY [] [] ⟨#[84]⟩ ⟨#[101,110]⟩=0:=by decide +kernel
open Go.RowKit
def eC (t:ByteArray):List Value:=[.int .i64 1,.string t,.string ⟨#[]⟩,.string ⟨#[]⟩,.string ⟨#[]⟩,.slice none 0 0,.slice none 0 0,.slice none 0 0,.slice none 0 0,.slice none 0 0]
theorem Rd.Tf {ok:Nat->Prop} {w:jmj} {k:Nat} {l:List D} {rows:List (List Value)} {b cap:Nat} (hl:l.length<=cap) (hm:cap<=maxLen) (h:aI ok w l rows) (hk:∀ r∈rows,r.length=k) (hok:ok b) (hb:b<w.heap.size) (hc:∀ j u,rows.flatten[j]?=some u->w.cell? ⟨b,j,none⟩=some u):Rd ok w (.sl k l) [.slice (some ⟨b,0,none⟩) l.length cap]:=by unfold Rd;exact ⟨_,cap,rows,rfl,hl,hm,h,hk,.inr ⟨b,0,rfl,hok,hb,fun j u hu=>by rw [Nat.zero_add];exact hc j u hu⟩⟩
theorem VD (ok:Nat->Prop) (w:jmj):AtR ok w eAt (.slice none 0 0) (.slice none 0 0):=⟨Rd.aF _ _ _,Rd.aF _ _ _⟩
theorem VE (ok:Nat->Prop) (w:jmj) (t:ByteArray):Rd ok w (Qz t).d (eC t):=aj.eu 1 t ⟨#[]⟩ ⟨#[]⟩ ⟨VD _ _,Rd.aF _ _ _,Rd.aF _ _ _,Rd.aF _ _ _⟩
mutual
theorem ah.QA (cl:ByteArray->Bool):∀ (b:ah) (par:Int) (dp:Nat),b.err cl par dp=0->b.aY.any iQ=false->∀ x∈b.each,(∃ d',ah.aT cl x.Gc d' x.kids=0)/\(ah.dx x.kids).any iQ=false/\ah.aV x.kids<=b.sz
 | .mk k lv i t d ti a li ks,par,dp,h,hu,x,hx=>by
  obtain ⟨h2,hbf,h3⟩:=kG cl h;rw [ah.aY,List.any_append,Bool.or_eq_false_iff] at hu;rw [ah.each] at hx;rw [ah.sz];rcases List.mem_cons.1 hx with rfl | hx
  ·exact ⟨⟨dp+1,h3⟩,hu.2,by show ah.aV ks<=_;omega⟩
  ·obtain ⟨g1,g2,g3⟩:=ah.vL cl ks k (dp+1) h3 hu.2 x hx;exact ⟨g1,g2,by omega⟩
theorem ah.vL (cl:ByteArray->Bool):∀ (l:List ah) (par:Int) (dp:Nat),ah.aT cl par dp l=0->(ah.dx l).any iQ=false->∀ x∈ah.aW l,(∃ d',ah.aT cl x.Gc d' x.kids=0)/\(ah.dx x.kids).any iQ=false/\ah.aV x.kids<=ah.aV l
 | [],_,_,_,_,x,hx=>by rw [ah.aW] at hx;cases hx
 | y::l,par,dp,h,hu,x,hx=>by
  rw [ah.aT] at h;rw [ah.dx,List.any_append,Bool.or_eq_false_iff] at hu;rw [ah.aW] at hx;rw [ah.aV];by_cases h1:y.err cl par dp≠0
  ·rw [if_pos h1] at h;exact absurd h h1
  ·rw [if_neg h1] at h;rcases List.mem_append.1 hx with hx | hx
   ·obtain ⟨g1,g2,g3⟩:=ah.QA cl y par dp (Classical.not_not.1 h1) hu.1 x hx;exact ⟨g1,g2,by omega⟩
   ·obtain ⟨g1,g2,g3⟩:=ah.vL cl l par dp h hu.2 x hx;exact ⟨g1,g2,by omega⟩
end
theorem MO (l:List ah) (h:zx l=0) (hsm:ah.aG l) (hz:ah.aV l<=900000):ah.kF l/\∀ x∈ah.aW l,x.Gc=14->ah.kF x.kids/\ah.aV x.kids<=900000:=by obtain ⟨h1,h2⟩:=vJ h;have h3:=Qy h;refine ⟨ah.pO pX l 0 0 h1 h3 hsm hz,fun x hx hk=>?_⟩;obtain ⟨⟨d',g1⟩,g2,g3⟩:=ah.vL pX l 0 0 h1 (by rw [ah.jd];exact h2) x hx;rw [hk] at g1;have g4:=(oJ (ah.jM l hsm x hx)).1;have g5:=ah.nN pX x.kids 14 d' (by decide) (by decide) g1 g2;exact ⟨ah.pO pX _ 14 d' g1 g5 g4 (by omega),by omega⟩
mutual
theorem MP:∀ (b:ah),b.each.length=b.sz
 | .mk k lv i t d ti a li ks=>by rw [ah.each,ah.sz,List.length_cons,qP ks];omega
theorem qP:∀ (l:List ah),(ah.aW l).length=ah.aV l
 | []=>by rw [ah.aW,ah.aV];rfl
 | x::l=>by rw [ah.aW,ah.aV,List.length_append,MP x,qP l]
end
theorem Gd {x:ah} (h:x.small):x.iOf.size<=300:=by obtain ⟨k,lv,i,t,d,ti,a,li,ks⟩:=x;rw [ah.small] at h;exact h.1
theorem oM:∀ (l:List ah),(l.flatMap iT).length<=l.length
 | []=>by simp
 | x::l=>by
  have h:=oM l;rw [List.flatMap_cons,List.length_append,List.length_cons];have h2:(iT x).length<=1:=by obtain ⟨k,lv,i,t,d,ti,a,li,ks⟩:=x;unfold iT;dsimp only;split<;>simp
  omega
open Go.RowKit Go.Shelf
attribute [local go_sem] Oper.semAt_some
theorem tF.ok {S Bb N0:Nat} (h1:S<=Bb) (h2:Bb<N0):MQ S (tF Bb N0) where
 below h:=h.below h1 h2
 Xx h hb:=(h.YS _ _ _ _ hb (by decide) (by decide)).trans hb
 VF h hb:=(h.YS _ _ _ _ hb (by decide) (by decide)).trans hb
theorem Vx.zy {Bb N0:Nat} {L:List Nd} {W W':jmj} {row:Option Nat} (h:Vx Bb N0 L W) (hB:Bb<N0) (hg:W.grownBy W' row) (hr:∀ r,row=some r->N0<=r/\∃ o:Obj,W.heap[r]?=some o/\o.isCells=false):Vx Bb N0 L W':=by obtain ⟨wB,rows,v,h1,h2,h3⟩:=h;refine ⟨wB,rows,v,h1,(h2.zy hg (fun r e=>⟨by have:=(hr r e).1;omega,(hr r e).2⟩)).up hg.size (jj9 _),?_⟩;exact (hg.block Bb h3.lt (fun e=>by have:=(hr Bb e.symm).1;omega)).trans h3
theorem Gf {c:Code} {Q:Exit->Act->jmj->Prop} {a:Act} {w:jmj} (h:c.wp Tryz.prog (fun e a w=>(∀ x,e≠Exit.panic x)/\Q e a w) a w):c.wp Tryz.prog Q a w:=Code.wp_mono (fun _ _ _ h=>h.2) h
def QB (b:ah):Prop:=b.iOf.size<=300/\(b.Gc=14->ah.kF b.kids/\ah.aV b.kids<=900000)
def BV.cs (x:BV):List Value:=[.int .i64 x.kd,.int .i64 x.lv,.string x.i,.string x.t,.string x.d,.string x.ti,.string x.at_.id,x.vc,x.vp,x.vl,x.vk]
def Y0 (Bb:Nat):Value:=.func (.func 39) #[] #[.pointer (some ⟨Bb,0,none⟩)]
def Tg (Bb Bf Bl:Nat) (s o v2:Value) (E:Int) (x:BV) (Bx:Nat):Act:={ tmps:=#[s,undef,.slice none 0 0,.int .i64 0,.int .i64 E,.pointer (some ⟨Bb,0,none⟩),o,.pointer (some ⟨Bf,0,none⟩),.pointer (some ⟨Bx,0,none⟩),s,.int .i64 E,.int .i64 E,.bool false,undef,s,v2,.bool false,s,o,Y0 Bb,s,.func (.func 87) #[] #[.pointer (some ⟨Bl,0,none⟩)],x.enc,undef,undef,undef,undef,undef,undef,undef,undef,undef,undef,undef,undef,undef,undef,undef,undef,undef,undef,undef,undef,undef],defers:=[] }
def BtX (N0 Bb Bf Bl:Nat) (s o v2:Value) (E:Int) (x:BV) (a':Act) (W:jmj):Prop:=∃ Bx,N0<=Bx/\CB 48 Bx x.cs W/\a'=Tg Bb Bf Bl s o v2 E x Bx
theorem BtX.own {N0 Bb Bf Bl B:Nat} {s o v2:Value} {E:Int} {x:BV} {a':Act}:OwnFrom B (fun (_:Unit) W=>BtX N0 Bb Bf Bl s o v2 E x a' W):=fun _ W W' row ⟨Bx,h1,h2,h3⟩ hg hr=>
 ⟨Bx,h1,(hg.block Bx h2.lt (fun e=>by
  obtain ⟨_,o,k1,k2⟩:=hr Bx e.symm;unfold CB at h2;rw [h2] at k1;cases k1;cases k2)).trans h2,h3⟩
def Ti (Bb N0 S:Nat) (w W0:jmj) (pre:List (BW S w QB)) (W:jmj):Prop:=Vx Bb N0 ((tV pre).flatMap iT) W/\tF Bb N0 W0 W
theorem Ti.own {Bb N0 S:Nat} {w W0:jmj} (hB:Bb<N0) (hz:N0=W0.heap.size):OwnFrom N0 (Ti Bb N0 S w W0):=fun s W W' row h hg hr=>
 ⟨h.1.zy hB hg hr,h.2.trans (tF.grown hg (by have:=h.2.size;omega) hr)⟩
theorem MR {fn:Func} {R:Ending->jmj->Prop} {a:Act} {w:jmj} {v:Value} (hd:a.defers=[]) (hr:(results fn a.tmps).run Tryz.prog w=.ok v w) (h:R (.returned v) w):bodyPostM Fence.wide 3 Tryz.prog fn R .ret a w:=by show LeavesInM _ _ _ _ _ _ a.defers _ _;rw [hd];unfold LeavesInM LeavesIn;exact ⟨v,hr,h⟩
theorem MS {n:Nat} {fn:Func} {R:Ending->jmj->Prop} {a:Act} {w:jmj} {v:Value} {D:Nat} (hd:a.defers=[{ target:=.collected D,args:=#[] }]) (hf:w.heap[D]?=some (.deferred (some []))) (hr:∀ w',(results fn a.tmps).run Tryz.prog w'=.ok v w') (h:R (.returned v) (w.putObj D (.deferred none))):bodyPostM Fence.wide n Tryz.prog fn R .ret a w:=by show LeavesInM _ _ _ _ _ _ a.defers _ _;rw [hd];refine ⟨by simp,.inl ⟨D,_,rfl,run_takeDeferred hf,?_⟩⟩;exact ⟨v,hr _,h⟩
theorem gT.Y1 {w W:jmj} {E:Nat} {L:List Nd} {v:Value} {D:Nat} (h:gT w E L (.returned v) W) (hD:w.heap.size<=D) (hf:W.heap[D]?=some (.deferred (some []))):gT w E L (.returned v) (W.putObj D (.deferred none)):=by obtain ⟨rows,v',he,hr⟩:=h;have hg:=grownBy_putObj' W D (.deferred none);exact ⟨rows,v',he,(hr.zy hg (fun r e=>by cases e;exact ⟨hD,_,hf,rfl⟩)).up hg.size (jj9 _)⟩
theorem II (l:List ah) (v:Value) (w:jmj) (hrd:Rd (·<w.heap.size) w (iO l) [v]) (hsm:ah.aG l) (hsz:ah.aV l<=900000) (hil:(ah.aU l).length<=1000) (hbd:ah.kV l) (ht:PT w) : Calls Tryz.prog 13 #[v] w (gT w (zx l) (Td l)):=by
 obtain ⟨iN,Fb,nU,nV,nW⟩:=info_parts mq;obtain ⟨a,cap,hv,-⟩:=Rd.aB hrd;obtain ⟨nl,hnl⟩:∃ nl,nl=l.length:=⟨_,rfl⟩;obtain rfl:v=.slice a nl cap:=by rw [hnl];simpa using hv
 have LC:=rW pX l a cap w hsm (fun _=>Ea) (by rw [<- hnl];exact hrd);rw [<- hnl] at LC;have lS:=hid LC;clear hv LC hnl;obtain ⟨S,hS⟩:∃ S,S=w.heap.size:=⟨_,rfl⟩;have Fg:=hid hrd;have jH:=hid hsm;have qC:Hid (∀ W:jmj,jmk S w W->PT W):=fun W hW=>ht.below (by rw [<- hS];exact hW)
 have hee:zx l=if ah.aT pX 0 0 l≠0 then ah.aT pX 0 0 l else if (ah.aU l).any iQ=true then 5 else 0:=rfl
 have hnn:Td l=if zx l=0 then eG l else []:=rfl
 have HW:=hid (fun h:zx l=0=>MO l h hsm hsz);have IC:Hid (∀ W:jmj,jmk S w W->Calls Tryz.prog 37 #[.slice a nl cap] W (fun e w'=>∃ v',e=.returned v'/\Rd (fun _=>True) w' (aY (ah.aU l)) [v']/\jmk W.heap.size W w')):=fun W hW=>by
  refine (Eb l (.slice a nl cap) W (hrd.up (by rw [<- hS];exact hW)) hbd (by omega) (by omega)).mono ?_;rintro e w2 ⟨v2,bR,rfl,hown2,Y2,zB,b2⟩;exact ⟨v2,rfl,Rd.lF (by rw [jjz];exact hown2) Y2 zB (fun _ _=>trivial),b2⟩
 obtain ⟨E0,hE0⟩:∃ E0,E0=ah.aT pX 0 0 l:=⟨_,rfl⟩;obtain ⟨EE,Ll⟩:∃ EE,EE=zx l:=⟨_,rfl⟩;obtain ⟨NN,Tj⟩:∃ NN,NN=Td l:=⟨_,rfl⟩;rw [<- hE0] at lS hee;rw [<- Ll] at hee hnn HW;rw [<- Tj] at hnn;rw [<- Ll,<- Tj];have Xy:=hid hee;have HNN:=hid hnn;have HS:=hid hS;clear hrd hee hnn hE0 Ll Tj ht hS;refine (callsIn_wide (n:=3)).1 ?_;refine callsIn_of_wp_marks Tryz.func13 rfl trivial ?_ rfl;simp only [Tryz.ntmps13,List.size_toArray,List.length_cons,List.length_nil,Nat.reduceAdd,Nat.reduceSub,Array.replicate_succ,Array.replicate_zero,List.push_toArray,List.append_toArray,List.nil_append,List.cons_append];refine wpIn_wide.2 ?_;go_wp2_with fail
 (with_reducible refine lS.out.mono ?_)
 rintro e w1 ⟨rfl,b1⟩;have B1:Hid (jmk S w w1):=by rw [HS.out];exact b1
 clear b1 lS;by_cases h0:E0=0
 ·have q1:((E0:Int) != 0)=false:=by rw [h0];rfl
  have VG:Hid (EE=if (ah.aU l).any iQ=true then 5 else 0):=by show _=_;rw [Xy.out,if_neg (by simp [h0])]
  have IL:=hid (IC.out w1 B1.out);clear h0;go_wp2_with fail
  (with_reducible refine IL.out.mono ?_)
  rintro e w2 ⟨v2,rfl,MU,b2⟩;have UL:=hid (FJ (ah.aU l) _ v2 w2 MU);obtain ⟨a2,n2,c2,rfl⟩:=Rd.ay MU;have B2:=hid (B1.out.trans (b2.mono (by have:=B1.out.size;have:=HS.out;omega)));clear MU b2 IL;go_wp2_with fail
  (with_reducible refine UL.out.mono ?_)
  rintro e w3 ⟨rfl,b3⟩;have B3:=hid (B2.out.trans (b3.mono (by have:=B2.out.size;have:=HS.out;omega)));obtain ⟨u,hu⟩:∃ u,u=(ah.aU l).any iQ:=⟨_,rfl⟩;rw [<- hu] at VG;rw [<- hu];clear b3 UL hu;cases u with
  | true=>
   have HF:Hid (gT w EE NN (.returned (.tuple #[.slice none 0 0,.int .i64 5])) w3):=by
    have h5:EE=5:=by rw [VG.out];rfl
    rw [h5];exact gT.nil (by rw [HNN.out,h5];rfl) (by rw [<- HS.out];exact B3.out)
   go_wp2;exact MR rfl (by simp [results,Tryz.results13,go_sem]) HF.out
  | false=>
   have hE:EE=0:=by rw [VG.out];rfl
   obtain ⟨hw1,hw3⟩:=HW.out hE;have Tk:=hid (show NN=eG l by rw [HNN.out,hE];rfl);have HE:=hid hE;have HWN:=hid (show ∀ b∈ah.aW l,QB b from fun b hb=>⟨Gd (ah.jM l jH.out b hb),fun hk=>hw3 b hb hk⟩);have HEL:=hid (show (ah.aW l).length<=900000 by rw [qP];exact hsz);have xI:=hid (show (ah.aX l).length<=900000 from jjj (uS l) (jjj (ah.dw l) hsz));obtain ⟨Bb,hBb⟩:∃ Bb,Bb=w3.heap.size:=⟨_,rfl⟩;obtain ⟨w4,hw4⟩:∃ w4,w4=w3.alloc (.cells #[.slice none 0 0] 75):=⟨_,rfl⟩;have k4:aH Bb (.slice none 0 0) 75 w4:=by rw [hw4,hBb];exact aH.new _ _ _
   have b4:jmk S w w4:=by rw [hw4];exact B3.out.alloc (by have:=B3.out.size;have:=HS.out;omega) _
   have hSB:S<=Bb:=by have:=B3.out.size;have:=HS.out;omega
   have z4:w4.heap.size=Bb+1:=by rw [hw4,jk6,hBb]
   have HC:=hid (sj (.pointer (some ⟨Bb,0,none⟩)) 900000 l (.slice a nl cap) w4 hsz (by omega) (Fg.out.up (by rw [<- HS.out];exact b4)) hw1 (qC.out w4 b4));have K4:=hid k4;have B4:=hid b4;have Z4:=hid z4;clear hE hw1 hw3 k4 b4 z4;go_upto_region 7 with (fail)
   rw [<- hw4,<- hBb];clear hw4 hBb;go_wp2_with fail
   (with_reducible refine HC.out.mono ?_)
   rintro e w5 ⟨vD,v5,rfl,bM⟩;obtain ⟨n5,Tm⟩:∃ n5,n5=((ah.aX l).map Nd.d).length:=⟨_,rfl⟩;have jhz:n5<=900000:=by rw [Tm,jjz];exact xI.out
   obtain ⟨a5,c5,rfl,-,-⟩:=bM.cap Tm.symm;have HN5:=hid Tm.symm;have Tn:=hid bM;have B45:=hid bM.aP;clear bM Tm HC;obtain ⟨Bf,Y3⟩:∃ Bf,Bf=w5.heap.size:=⟨_,rfl⟩;obtain ⟨w6,iJ⟩:∃ w6,w6=w5.alloc (.cells #[Y0 Bb] 79):=⟨_,rfl⟩;obtain ⟨W0,hW0⟩:∃ W0,W0=w6.alloc (.cells #[.slice a nl cap] 22):=⟨_,rfl⟩;have z6:w6.heap.size=Bf+1:=by rw [iJ,jk6,Y3]
   have zz:W0.heap.size=Bf+2:=by rw [hW0,jk6,z6]
   have jd1:=B45.out.size;have ji0:Bb<Bf:=by have:=Z4.out;omega
   have g5:jmk w5.heap.size w5 W0:=by rw [hW0,iJ];exact ((jj8 _ _).alloc (jj9 _) _).alloc (by rw [jk6];omega) _
   have bF:aH Bf (Y0 Bb) 79 W0:=by rw [hW0,iJ,Y3];exact (aH.new _ _ _).alloc _
   have bL:aH (Bf+1) (.slice a nl cap) 22 W0:=by rw [hW0,<- z6];exact aH.new _ _ _
   have bB:aH Bb (.slice none 0 0) 75 W0:=(K4.out.below (B:=w4.heap.size) (by have:=Z4.out;omega) B45.out).below (B:=w5.heap.size) (by omega) g5;have bl0:jmk S w W0:=(B4.out.trans (B45.out.mono (by have:=Z4.out;omega))).trans (g5.mono (by have:=Z4.out;omega));have HR5:=hid (Tn.out.below g5);have hU5:w5.heap.size=Bf:=Y3.symm;have N0:Ti Bb W0.heap.size S w W0 [] W0:=⟨⟨W0,[],.slice none 0 0,rfl,aC.nil _ _ _ _,bB⟩,tF.refl _ _ _⟩;have HFB:=hid (show aH Bf (Y0 Bb) 79 W0 from bF);have hnf:∀ (x:Nat) (wx:jmj),Sem.run Tryz.prog (binOp BinOp.eql 81 (Value.func (Fn.func 87) #[] #[Value.pointer (some ⟨x,0,none⟩)]) Value.nilFunc) wx=.ok (.bool false) wx:=fun x wx=>by rfl
   have HBS:=hid (show Rd (·<S) w (iO l) [.slice a nl cap] by rw [HS.out];exact Fg.out);have EC:=hid (MV a nl cap w6);rw [<- hW0,z6] at EC;have HU5:=hid hU5;have HZZ:=hid zz;clear bF bB g5 z6 jd1 Tn hU5 hW0;have Y4:Y0 Bb=.func (.func 39) #[] #[.pointer (some ⟨Bb,0,none⟩)]:=rfl;rw [Y4] at iJ;go_upto_region 9 with (fail)
   rw [<- iJ,<- Y3];clear iJ Y3 Y4;go_wp2_with fail
   (with_reducible refine EC.out.mono ?_)
   rintro e w7 ⟨rfl,hw7⟩;rw [hw7];clear EC hw7 w7;go_wp2_with fail
   obtain ⟨s0,hs0⟩:∃ s0,s0=Value.slice a nl cap:=⟨_,rfl⟩;have hN0:W0.heap.size=Bf+2:=HZZ.out;have hBN:Bb<W0.heap.size:=by omega
   refine wpIn_wide (n:=3) |>.1 ?_
   refine wpIn_rangeFunc_ownH (α:=BW S w QB) rfl (by decide) (gf:=87) (lb:=#[.pointer (some ⟨Bf+1,0,none⟩)]) rfl trivial (enters_of Tryz.func87 (by kernel_rfl) rfl)
    (Gg 2 (Bf+1) S QB l (.slice a nl cap) w W0 (tF Bb W0.heap.size) (tF.ok hSB hBN) HWN.out HBS.out bl0 (by omega) bL) (fun h k=>h.trans k) (fun W l o o' h1 h2 h3 _=>tF.obj Bb W0.heap.size W l o o' h1 h2 h3) (jj8 _ _) (fun _=>rfl)
    (Ti Bb W0.heap.size S w W0) (fun _ _ _=>False) (Ti.own hBN rfl) (fun c s A B row h _ _=>h) N0
    (fun x a' W=>BtX W0.heap.size Bb Bf (Bf+1) (.slice a nl cap) (.slice a5 n5 c5) (.slice a2 n2 c2) (E0:Int) x.1 a' W) (fun x a'=>BtX.own) ?assign ?body ?done ?stop
   case stop=>rintro D c pre W _ _ h _;exact h.elim
   case assign=>
    rintro l0 pre ⟨⟨kd,lv,i,t,d,ti,at_,li,ks,vc,vp,vl,vk⟩,hR,ji1⟩ W K hi hK;dsimp only at hR hK;obtain ⟨ac,nc,cc,rfl⟩:=Rd.ay hR.at_.cls
    obtain ⟨ap,np,cp,rfl⟩:=Rd.ay hR.at_.aJ
    obtain ⟨al,nl2,cl,rfl⟩:=Rd.ay hR.line;obtain ⟨ak,nk,ck,rfl⟩:=Rd.ay hR.kids;have HI:=hid hi;have HK:=hid hK;clear hi hK;dsimp only [BV.enc]
    gi_wp2
    have hsz:=HI.out.2.size;exact HK.out _ _ ((KeepsOthers.alloc _ _).from _) (tF.grown (World.grownBy_alloc _ _ none) hsz (fun r e=>by cases e)) ⟨HI.out.1.zy hBN (World.grownBy_alloc _ _ none) (fun r e=>by cases e),HI.out.2.trans (tF.grown (World.grownBy_alloc _ _ none) hsz (fun r e=>by cases e))⟩ ⟨W.heap.size,hsz,heap_alloc_new W _,rfl⟩
   case body=>
    rintro l0 pre x a' W hl0 _ hN ⟨Bx,hBx,IJ,rfl⟩ hlen;have hR:=x.2.1;have Tp:=x.2.2;obtain ⟨y,hy⟩:∃ y,y=x.1:=⟨_,rfl⟩;rw [<- hy] at hR IJ Tp ⊢;have HEQ:Hid ((tV (pre++[x])).flatMap iT=(tV pre).flatMap iT++iT y.blk):=by show _=_;rw [jk,List.flatMap_append,hy];show _++List.flatMap iT [x.1.blk]=_;rw [List.flatMap_cons,List.flatMap_nil,List.append_nil]
    have Y5:((tV pre).flatMap iT).length<=1000000:=by have h1:=oM (tV pre);rw [vM] at h1;have:=HEL.out;omega
    obtain ⟨kd,lv,i,t,d,ti,at_,li,ks,vc,vp,vl,vk⟩:=y;dsimp only at hR;have Tp:i.size<=300/\(kd=14->ah.kF ks/\ah.aV ks<=900000):=Tp;obtain ⟨ac,nc,cc,rfl⟩:=Rd.ay hR.at_.cls
    obtain ⟨ap,np,cp,rfl⟩:=Rd.ay hR.at_.aJ
    obtain ⟨al,nl2,cl,rfl⟩:=Rd.ay hR.line;obtain ⟨ak,nk,ck,rfl⟩:=Rd.ay hR.kids;have c0:=IJ.cell 0 _ rfl;have hSW:=hN.2.size;have hbW:jmk S w W:=bl0.trans (hN.2.below (S:=S) hSB hBN);have HN:=hid hN;dsimp only at c0;clear hlen hy hN;unfold Tg;dsimp only [BV.enc];by_cases hk:kd=14
    ·subst hk;have q1:((14:Int)==14)=true:=rfl;have c1:=IJ.cell 1 _ rfl;have c2:=IJ.cell 2 _ rfl;have c3:=IJ.cell 3 _ rfl;have c4:=IJ.cell 4 _ rfl;have c5:=IJ.cell 5 _ rfl;have c6:=IJ.cell 6 _ rfl;have c7:=IJ.cell 7 _ rfl;have c8:=IJ.cell 8 _ rfl;have c9:=IJ.cell 9 _ rfl;have c10:=IJ.cell 10 _ rfl;dsimp only at c1 c2 c3 c4 c5 c6 c7 c8 c9 c10;have bxF:W.cell? ⟨Bf,0,none⟩=some (.func (.func 39) #[] #[.pointer (some ⟨Bb,0,none⟩)]):=aH.cell (t:=79) ((HN.out.2.blk Bf (by omega) (by omega)).trans HFB.out);have hCA:=D8 Bb W0.heap.size ((tV pre).flatMap iT) 14 lv i t d ti at_ li ks (.slice ac nc cc) (.slice ap np cp) (.slice al nl2 cl) (.slice ak nk ck) W hBN (hR.DI (fun b (hb:b<S) hlt=>⟨by omega,hbW.block b hb⟩)) (Tp.2 rfl).1 (Tp.2 rfl).2 Tp.1 (qC.out W hbW) Y5 HN.out.1
     have HCA:=hid hCA;have hno:iT (BV.blk ⟨14,lv,i,t,d,ti,at_,li,ks,.slice ac nc cc,.slice ap np cp,.slice al nl2 cl,.slice ak nk ck⟩)=[aQ pK [⟨oh,dJ++i⟩,⟨iw,gG⟩] (ah.aX ks)]:=rfl;have xP:=hid hno;clear hno hCA IJ hR Tp
     gi_wp2_with fail
     refine ⟨trivial,?_⟩;refine (CallsIn.inRound l0 (callsIn_wide.2 HCA.out)).mono ?_;rintro e W2 ⟨rfl,hBu,hKp,hSt⟩;have HP:Hid (Ti Bb W0.heap.size S w W0 (pre++[x]) W2):=by refine ⟨?_,HN.out.2.trans hKp⟩;rw [HEQ.out,xP.out];exact hBu
     have HKF:Hid (KeepsFrom W0.heap.size W W2):=⟨hKp.size,fun k o hk' ho hc=>hSt k o ho hc⟩;have Xz:=hid hKp;clear hBu hKp hSt c0 c1 c2 c3 c4 c5 c6 c7 c8 c9 c10 bxF HCA;dsimp only
     gi_wp2
     exact ⟨HKF.out,Xz.out,HP.out⟩
    ·have q1:(kd==14)=false:=by rw [beq_eq_false_iff_ne];exact hk
     have HP:Hid (Ti Bb W0.heap.size S w W0 (pre++[x]) W):=by
      have hno:iT (BV.blk ⟨kd,lv,i,t,d,ti,at_,li,ks,.slice ac nc cc,.slice ap np cp,.slice al nl2 cl,.slice ak nk ck⟩)=[]:=by show iT (.mk kd lv i t d ti at_ li ks)=_;unfold iT;exact if_neg hk
      refine ⟨?_,HN.out.2⟩;rw [HEQ.out,hno,List.append_nil];exact HN.out.1
     clear hk IJ hR Tp
     gi_wp2
     exact ⟨(KeepsOthers.refl _).from _,tF.refl _ _ _,HP.out⟩
   case done=>
    rintro D pre W hD hpre hN hK;rw [Ti,hpre] at hN;obtain ⟨⟨wB,rows,vN,SI,hrow,hbx⟩,hkp⟩:=hN;have hnt:(ah.aW l).flatMap iT=mQ l:=rfl;rw [hnt] at hrow;obtain ⟨m,hm⟩:∃ m,m=((mQ l).map Nd.d).length:=⟨_,rfl⟩;have hm1:m<=900000:=by rw [hm,jjz];exact jjj (oM (ah.aW l)) HEL.out
    obtain ⟨av,cv,rfl,-,-⟩:=hrow.cap hm.symm;have hbl:jmk S w W:=bl0.trans (hkp.below (S:=S) hSB hBN);have hDW:D<W.heap.size:=(Array.getElem?_eq_some_iff.1 hK).1;have hBZ:w5.heap.size=Bf:=HU5.out;obtain ⟨wO,hzO,hrO⟩:=HR5.out.reU (w':=W) hkp.size (fun b h1 h2=>hkp.blk b (by omega) (by have:=Z4.out;omega));have HO:=hid hrO;have Y6:=hid hzO;have HK:=hid hK;have Dc:=hid hbl;have bX:=hid hrow;have Cv:=hid SI;have HSW:=hid hkp.size;have x0:=hbx.cell;have XB:Hid (∀ y:jmj,jmk W.heap.size W y->y.cell? ⟨Bb,0,none⟩=some (.slice av m cv)):=fun y hy=>(hbx.below (by have:=hkp.size;omega) hy).cell
    have hml:(mQ l).length=m:=by rw [hm,jjz]
    have HML:=hid hml;clear hrO hzO hK hbl hrow SI hbx hpre hm hkp hml hnt;by_cases hm0:m=0
    ·have q8:¬ (0:Int)<(m:Int):=by omega
     have HF:Hid (gT w EE NN (.returned (.tuple #[.slice a5 n5 c5,.int .i64 0])) W):=by
      have Tj:NN=ah.aX l:=by rw [Tk.out];unfold eG;rw [if_pos (by rw [List.isEmpty_iff,<- List.length_eq_zero_iff,HML.out];exact hm0),List.append_nil]
      rw [HE.out,Tj];exact ⟨_,_,rfl,(HO.out.uW (by have:=Y6.out;have:=HS.out;have:=Z4.out;omega) (by rw [<- HS.out];exact Dc.out)).top⟩
     have HF2:=hid (HF.out.Y1 (by have:=HS.out;omega) HK.out);clear HF;go_wp2;exact MS rfl HK.out (fun w'=>by simp [results,Tryz.results13,go_sem]) HF2.out
    ·have q8:(0:Int)<(m:Int):=by omega
     have Tj:NN=ah.aX l++[aQ eH [⟨iw,oN⟩] (mQ l)]:=by rw [Tk.out];unfold eG;rw [if_neg (by rw [List.isEmpty_iff,<- List.length_eq_zero_iff,HML.out];exact hm0)]
     have jd2:=hid Tj;clear Tj;go_upto_region 14 with (fail)
     refine Gf ?_;refine fB 9 (fun w'=>w'.cell? ⟨Bb,0,none⟩=some (.slice av m cv)) (by kernel_rfl) (XB.out W.drew (jj8 _ _).drew) ?_;intro hH;refine fP (i:=0) (v:=?_) rfl (by kernel_rfl) (by kernel_rfl) (by kernel_rfl) (by kernel_rfl) (by kernel_rfl) (fun _ _ _ h=>absurd rfl (h.1 _)) hH (Or.inl ⟨by rfl,?_⟩) ?_;rotate_left
     ·(intro wv hSw;(try dsimp only at hSw);go_simp;try with_reducible rfl)
     try simp only [Act.put,jj4,jj5,jj6]
     refine fP (i:=3) (v:=?_) rfl (by kernel_rfl) (by kernel_rfl) (by kernel_rfl) (by kernel_rfl) (by kernel_rfl) (fun _ _ _ h=>absurd rfl (h.1 _)) hH (Or.inl ⟨by rfl,?_⟩) ?_;rotate_left
     ·(intro wv hSw;(try dsimp only at hSw);go_simp;try with_reducible rfl)
     try simp only [Act.put,jj4,jj5,jj6]
     refine fP (i:=4) (v:=?_) rfl (by kernel_rfl) (by kernel_rfl) (by kernel_rfl) (by kernel_rfl) (by kernel_rfl) (fun _ _ _ h=>absurd rfl (h.1 _)) hH (Or.inl ⟨by rfl,?_⟩) ?_;rotate_left
     ·(intro wv hSw;(try dsimp only at hSw);go_simp;try with_reducible rfl)
     try simp only [Act.put,jj4,jj5,jj6]
     refine fP (i:=5) (v:=?_) rfl (by kernel_rfl) (by kernel_rfl) (by kernel_rfl) (by kernel_rfl) (by kernel_rfl) (fun _ _ _ h=>absurd rfl (h.1 _)) hH (Or.inl ⟨by rfl,?_⟩) ?_;rotate_left
     ·(intro wv hSw;(try dsimp only at hSw);go_simp;try with_reducible rfl)
     try simp only [Act.put,jj4,jj5,jj6]
     obtain ⟨y0,hy0⟩:∃ y0,y0=W.drew:=⟨_,rfl⟩;have Y7:jmk W.heap.size W y0:=by rw [hy0];exact (jj8 _ _).drew
     rw [<- hy0] at hH;rw [<- hy0];clear hy0;have PC:Hid (Calls Tryz.prog 41 #[.slice (some ⟨y0.heap.size,0,none⟩) 2 2] (y0.alloc (.cells #[.string ⟨#[99,108,97,115,115]⟩,.string ⟨#[110,111,116,101,115]⟩] 9)) (bJ (y0.alloc (.cells #[.string ⟨#[99,108,97,115,115]⟩,.string ⟨#[110,111,116,101,115]⟩] 9)) [⟨iw,oN⟩])):=P9 iw oN y0;refine q01 (i:=1) rfl (by kernel_rfl) (fun KQ hK=>?_);go_simp;have B1:jmk W.heap.size W (y0.alloc (.cells #[.string ⟨#[99,108,97,115,115]⟩,.string ⟨#[110,111,116,101,115]⟩] 9)):=Y7.alloc Y7.size _;refine hK.out _ _ (fun _ _=>XB.out _ B1) (fun hH2=>?_);clear hK KQ hH;have hH:=hH2 (by decide) (by kernel_rfl);clear hH2;try simp only [Act.put,jj4,jj5,jj6]
     refine q01 (i:=2) rfl (by kernel_rfl) (fun KQ hK=>?_);go_simp;go_at_call 41
     (with_reducible refine (PC.out).mono ?_)
     rintro e y2 ⟨bR,v2,rfl,hrow2⟩;obtain ⟨a9,c9,rfl,-,-⟩:=hrow2.cap (n:=1) rfl;have B2:jmk W.heap.size W y2:=B1.trans (hrow2.aP.mono B1.size);have Y8:=hid (show Rd (W.heap.size<=·) y2 (bS [⟨iw,oN⟩]) [.slice a9 1 c9] from hrow2.fu.weaken (fun b hb=>jjj B1.size hb));clear hrow2 PC;refine hK.out _ _ (fun _ _=>XB.out _ B2) (fun hH2=>?_);clear hK KQ hH;have hH:=hH2 (by decide) (by kernel_rfl);clear hH2;try simp only [Act.put,jj4,jj5,jj6]
     refine q01 (i:=6) rfl (by kernel_rfl) (fun KQ hK=>?_);go_simp;go_at_call 40
     (with_reducible refine (ko ⟨#[115,101,99,116,105,111,110]⟩ a9 av 1 m c9 cv y2).mono ?_)
     rintro e y3 ⟨rfl,hb⟩;have B3:jmk W.heap.size W y3:=B2.trans (hb.mono B2.size);have XD:=hid (show Rd (fun b=>False\/w5.heap.size<=b) y3 (aQ eH [⟨iw,oN⟩] (mQ l)).d [.string ⟨#[115,101,99,116,105,111,110]⟩,.string ⟨#[]⟩,.slice a9 1 c9,.slice av m cv] from (Nd.eu ⟨#[115,101,99,116,105,111,110]⟩ ⟨#[]⟩ ⟨(Y8.out.aZ hb).weaken (fun b (hb:W.heap.size<=b)=>by have:=HSW.out;show w5.heap.size<=b;omega),(bX.out.fu.aZ B3).weaken (fun b (hb:wB.heap.size<=b)=>by have:=Cv.out;show w5.heap.size<=b;omega)⟩).weaken (fun b hb=>.inr hb));have U3:=hid (HO.out.below B3);have K3:=hid (show y3.heap[D]?=some (.deferred (some [])) from (B3.block D hDW).trans HK.out);have hD3:D<y3.heap.size:=Nat.lt_of_lt_of_le hDW B3.size;clear hb;refine hK.out _ _ (fun _ _=>XB.out _ B3) (fun hH2=>?_);clear hK KQ hH;have hH:=hH2 (by decide) (by kernel_rfl);clear hH2;try simp only [Act.put,jj4,jj5,jj6]
     refine q01 (i:=7) rfl (by kernel_rfl) (fun KQ hK=>?_);go_simp;refine hK.out _ _ (fun _ _=>XB.out _ (B3.alloc B3.size _)) (fun hH2=>?_);clear hK KQ hH;have hH:=hH2 (by decide) (by kernel_rfl);clear hH2;try simp only [Act.put,jj4,jj5,jj6]
     refine q01 (i:=8) rfl (by kernel_rfl) (fun KQ hK=>?_);refine uN (n:=n5) rfl (.tmp 34) (.tmp 41) 28 rfl iN _ 80 Tryz.underlying28 Fb nU nV nW rfl (by decide) U3.out (fun _=>False.elim) (aQ eH [⟨iw,oN⟩] (mQ l)).d [.string ⟨#[115,101,99,116,105,111,110]⟩,.string ⟨#[]⟩,.slice a9 1 c9,.slice av m cv] XD.out rfl jJ HN5.out (by omega) (by decide) rfl rfl ?_;intro a6 c6 w8 zC XC;have hoD:some D≠(Value.slice a5 n5 c5).ownBlock:=fun e=>by have:=U3.out.oU D e.symm;omega
     have K8:w8.heap[D]?=some (.deferred (some [])):=(XC.block D (by rw [jk6];omega) hoD).trans ((Below.heap_alloc y3 _ D hD3).trans K3.out);have B8:jmk w.heap.size w w8:=by have h1:jmk S wO w8:=zC.aP.mono (by have:=Y6.out;have:=Z4.out;omega);have h2:jmk S w y3:=Dc.out.trans (B3.mono (by have:=Dc.out.size;have:=HS.out;omega));rw [<- HS.out];exact (h2.alloc (by have:=h2.size;have:=HS.out;omega) _).grown XC (by rw [jk6];have:=h2.size;have:=HS.out;omega) (fun j hj=>by have:=U3.out.own.lt j hj;have:=Y6.out;have:=Z4.out;omega)
     have HF:gT w EE NN (.returned (.tuple #[.slice a6 (n5+1) c6,.int .i64 0])) w8:=by rw [HE.out,jd2.out];refine ⟨vD++[[.string ⟨#[115,101,99,116,105,111,110]⟩,.string ⟨#[]⟩,.slice a9 1 c9,.slice av m cv]],_,rfl,?_⟩;rw [List.map_append];exact zC.uW (by have:=Y6.out;have:=HS.out;have:=Z4.out;omega) B8
     have HF2:=hid (HF.Y1 (by have:=HS.out;omega) K8);have HK8:=hid K8;have cb8:w8.cell? ⟨Bb,0,none⟩=some (.slice av m cv):=by
      have hBl:Bb<y3.heap.size:=by omega
      rw [gY (XC.block Bb (by rw [jk6];omega) (fun e=>by have:=(U3.out.own.lt Bb e.symm).1;have:=Y6.out;have:=Z4.out;omega))];exact XB.out _ (B3.alloc B3.size _)
     clear zC XC HF B8 K8 hoD;refine hK.out _ _ (fun _ _=>cb8) (fun hH2=>?_);clear hK KQ hH;have hH:=hH2 (by decide) (by kernel_rfl);clear hH2;try simp only [Act.put,jj4,jj5,jj6]
     refine q01 (i:=9) rfl (by kernel_rfl) (fun KQ hK=>?_);go_simp;refine hK.out _ _ (fun h=>absurd rfl h) (fun _=>?_);clear hK KQ hH;try simp only [Act.put,jj4,jj5,jj6]
     refine Li (by kernel_rfl) ?_ _;refine ⟨fun _ h=>(by cases h),?_⟩;clear XD U3 Y8;go_wp2;exact MS rfl HK8.out (fun w'=>by simp [results,Tryz.results13,go_sem]) HF2.out
 ·have q1:((E0:Int) != 0)=true:=by rw [bne_iff_ne];omega
  have HF:Hid (gT w EE NN (.returned (.tuple #[.slice none 0 0,.int .i64 (E0:Int)])) w1):=by
   have h5:EE=E0:=by rw [Xy.out,if_pos (by simpa using h0)]
   rw [h5];exact gT.nil (by rw [HNN.out,h5,if_neg h0]) (by rw [<- HS.out];exact B1.out)
  clear h0;go_wp2;exact MR rfl (by simp [results,Tryz.results13,go_sem]) HF.out
open Go.RowKit
theorem QC {ok:Nat->Prop} {w:jmj} {n t:ByteArray} {a:List Pr} {ks:List Nd} {va vk:Value} (h:Rd ok w (Nd.mk n t a ks).d [.string n,.string t,va,vk]):Rd ok w (cZ ks) [vk]:=by obtain ⟨va',Tq,e,hR⟩:=Nd.open_ h;simp only [List.cons.injEq,and_true,true_and] at e;obtain ⟨rfl,rfl⟩:=e;exact hR.ks
def PgX (w w':jmj) (title:ByteArray) (at_:List Pr) (va vk:Value):Prop:=
 ∃ (p3:Nat) (kh bv:Value),vk=.slice (some ⟨p3,0,none⟩) 2 2/\w.heap.size<=p3/\CB 35 p3 [.string iU,.string ⟨#[]⟩,.slice none 0 0,kh,.string gH,.string ⟨#[]⟩,.slice none 0 0,bv] w' /\
  Rd (fun b=>w.heap.size<=b/\b<p3) w' (cZ [aQ jl [⟨Cz,gI⟩] [],aQ fQ [] (bT title)]) [kh]/\Rd (fun b=>w.heap.size<=b/\b<p3) w' (bS at_) [va]
def jN (w:jmj) (title:ByteArray) (E:Nat) (x:Nd) (e:Ending) (w':jmj):Prop:=
 ∃ va vk,e=.returned (.tuple #[.agg #[.string x.nm,.string x.tx,va,vk],.int .i64 (E:Int)])/\kU (w.heap.size<=·) w' x.at_ x.ks va vk/\jmk w.heap.size w w'/\(E=0->PgX w w' title x.at_ va vk)
theorem jN.of {w w':jmj} {title:ByteArray} {E:Nat} {E':Int} {x:Nd} {v:Value} (h:rY w x (.returned v) w') (hE:E'=(E:Int)) (hx:E=0->∀ va vk,v=.agg #[.string x.nm,.string x.tx,va,vk]->PgX w w' title x.at_ va vk):jN w title E x (.returned (.tuple #[v,.int .i64 E'])) w':=by
 obtain ⟨va,vk,he,h1,h2⟩:=h;subst hE;injection he with he
 exact ⟨va,vk,by rw [he],h1,h2,fun h0=>hx h0 va vk he⟩
theorem Gh (me:List Pr) (l:List ah) (title lang:ByteArray) (vm vb:Value) (w:jmj) (hm:Rd (·<w.heap.size) w (bS me) [vm]) (hb:Rd (·<w.heap.size) w (iO l) [vb]) (hme:me.length<=1000) (rX:∀ p∈me,p.key.size<=1000/\p.val.size<=1000) (hall:ah.bV l<=32768) (hsm:ah.aG l) (hsz:ah.aV l<=900000) (hil:(ah.aU l).length<=1000) (hbd:ah.kV l) (hti:title.size<=300) (hla:lang.size<=300) (ht:PT w) : Calls Tryz.prog 16 #[.agg #[vm,vb],.string title,.string lang] w (jN w title (JY me l title lang) (Te me l title lang)):=by
 obtain ⟨am,cm,VH,-⟩:=Rd.aB hm;obtain ⟨nm,hnm⟩:∃ nm,nm=me.length:=⟨_,rfl⟩;obtain rfl:vm=.slice am nm cm:=by rw [hnm];simpa using VH
 obtain ⟨ab,nb,cb,rfl⟩:=Rd.ay hb;clear VH;obtain ⟨S,W0,hS,hW0,z0,k0,k1,b0⟩:=qN 26 w [.slice am nm cm,.slice ab nb cb];have J2:jmk w.heap.size w W0:=by rw [<- hS];exact b0
 have CK:=FI pX me l am ab cm nb cb W0 hme rX hall hsm (fun _=>Ea) (by rw [<- hnm];exact hm.up J2) (hb.up J2);rw [<- hnm] at CK;have BC:Hid (∀ W:jmj,jmk W0.heap.size W0 W->Calls Tryz.prog 13 #[.slice ab nb cb] W (gT W (zx l) (Td l))):=fun W hW=>II l _ W (hb.up (J2.trans (hW.mono J2.size))) hsm hsz hil hbd (ht.below (J2.trans (hW.mono J2.size)))
 have LC:Hid (∀ W:jmj,Calls Tryz.prog 51 #[.string title] W (dR (.bool (iE title)) W)):=fun W=>by
  have h:=Dy title W (by omega);rw [JZ] at h;exact h
 have NC:Hid (∀ W:jmj,Calls Tryz.prog 52 #[.string lang] W (fun e w'=>e=.returned (.bool (jD lang))/\W=w')):=fun W=>Ld lang W (by omega)
 obtain ⟨EE,Ll⟩:∃ EE,EE=JY me l title lang:=⟨_,rfl⟩;obtain ⟨E0,hE0⟩:∃ E0,E0=iH pX me l:=⟨_,rfl⟩;obtain ⟨T,hT⟩:∃ T,T=iE title:=⟨_,rfl⟩;obtain ⟨G,hG⟩:∃ G,G=jD lang:=⟨_,rfl⟩;obtain ⟨EB,VI⟩:∃ EB,EB=zx l:=⟨_,rfl⟩;obtain ⟨NB,hNB⟩:∃ NB,NB=Td l:=⟨_,rfl⟩;have hee:EE=if E0≠0 then E0 else if T=false then 17 else if G=false then 6 else EB:=by
  rw [Ll,hE0,hT,hG,VI];unfold JY;by_cases h0:iH pX me l≠0
  ·rw [if_pos h0,if_pos h0]
  ·rw [if_neg h0,if_neg h0];have h1:zx l=if (ah.aU l).any iQ=true then 5 else 0:=by
    unfold zx;rw [if_neg (by rw [ML (Classical.not_not.1 h0)];simp)]
   rw [h1]
 have hpn:Te me l title lang=if EE=0 then eU title lang (eG l) else mP:=by rw [Ll];rfl
 have hnb:EB=0->NB=eG l:=fun h=>by rw [hNB];unfold Td;rw [if_pos (VI.symm.trans h)]
 rw [<- hE0] at CK;rw [<- hT] at LC;rw [<- hG] at NC;rw [<- VI,<- hNB] at BC;rw [<- Ll];have HCK:=hid CK;have Xy:=hid hee;have Y9:=hid hpn;have Pz:=hid hnb;have Cx:=hid hS;have HW0:=hid hW0;have Z0:=hid z0;have B0:=hid b0;have K1:=hid k1;have X0:Hid (∀ W:jmj,jmk W0.heap.size W0 W->W.cell? ⟨S,1,none⟩=some (.slice ab nb cb)):=fun W hW=>(k0.below hW).cell 1 _ rfl
 have x0:=k0.cell 0 _ rfl;have x1:=k0.cell 1 _ rfl;clear CK hm hb hme rX hall hsm hsz hil hbd hti hla ht Ll hE0 hT hG VI hNB hee hpn hnb hS hW0 z0 b0 k1 k0 J2 hnm;go_enter Tryz.func16,Tryz.ntmps16;go_upto_region 1 with (fail)
 rw [<- Cx.out];have hk0:=HW0.out;simp only [jI] at hk0;rw [<- hk0];clear hk0;go_wp2_with fail
 (with_reducible refine HCK.out.mono ?_)
 rintro e w1 ⟨rfl,b1⟩;have B1:=hid b1;clear b1 HCK x0 x1;by_cases h0:E0=0
 ·have q1:((E0:Int) != 0)=false:=by rw [h0];rfl
  have HE1:Hid (EE=if T=false then 17 else if G=false then 6 else EB):=by show _=_;rw [Xy.out,if_neg (by simp [h0])]
  have LT:=hid (LC.out w1);clear h0 Xy;go_wp2_with fail
  (with_reducible refine LT.out.mono ?_)
  rintro e w2 ⟨rfl,b2⟩;have B2:=hid (aR B1.out b2);clear b2 LT;cases T with
  | false=>
   have Za:=hid (show EE=17 by rw [HE1.out];rfl);have VJ:=hid (show Te me l title lang=mP by rw [Y9.out,Za.out];rfl);obtain ⟨x0,x1,x2,x3,xf⟩:=pJ (K1.out.below B2.out);obtain ⟨w9,bO⟩:∃ w9,w9=four w2 (S+1) (.string ⟨#[]⟩) (.string ⟨#[]⟩) (.slice none 0 0) (.slice none 0 0):=⟨_,rfl⟩;have hf:=fA ⟨#[]⟩ ⟨#[]⟩ [] [] Cx.out Z0.out B0.out K1.out B2.out ⟨Rd.aF _ _ _,Rd.aF _ _ _⟩;rw [<- bO] at hf;have iW:=hid hf.1;have Ba:=hid hf.2;clear hf;have hw8:=bO;simp only [four] at hw8;clear bO;go_wp2;rw [<- hw8];have r0:=iW.out.cell 0 _ rfl;have r1:=iW.out.cell 1 _ rfl;have r2:=iW.out.cell 2 _ rfl;have r3:=iW.out.cell 3 _ rfl;exact bodyPost_ret (v:=.tuple #[.agg #[.string ⟨#[]⟩,.string ⟨#[]⟩,.slice none 0 0,.slice none 0 0],.int .i64 (17)]) (by simp [results,Tryz.results16,go_sem,r0,r1,r2,r3]) rfl (by rw [VJ.out,Za.out];exact jN.of Ba.out (by simp) (fun h=>by cases h))
  | true=>
   have NT:=hid (NC.out w2);go_wp2_with fail
   (with_reducible refine NT.out.mono ?_)
   rintro e w3 ⟨rfl,hw3⟩;rw [<- hw3];clear NT hw3 w3;cases G with
   | false=>
    have HE6:=hid (show EE=6 by rw [HE1.out];rfl);have VJ:=hid (show Te me l title lang=mP by rw [Y9.out,HE6.out];rfl);obtain ⟨x0,x1,x2,x3,xf⟩:=pJ (K1.out.below B2.out);obtain ⟨w9,bO⟩:∃ w9,w9=four w2 (S+1) (.string ⟨#[]⟩) (.string ⟨#[]⟩) (.slice none 0 0) (.slice none 0 0):=⟨_,rfl⟩;have hf:=fA ⟨#[]⟩ ⟨#[]⟩ [] [] Cx.out Z0.out B0.out K1.out B2.out ⟨Rd.aF _ _ _,Rd.aF _ _ _⟩;rw [<- bO] at hf;have iW:=hid hf.1;have Ba:=hid hf.2;clear hf;have hw8:=bO;simp only [four] at hw8;clear bO;go_wp2;rw [<- hw8];have r0:=iW.out.cell 0 _ rfl;have r1:=iW.out.cell 1 _ rfl;have r2:=iW.out.cell 2 _ rfl;have r3:=iW.out.cell 3 _ rfl;exact bodyPost_ret (v:=.tuple #[.agg #[.string ⟨#[]⟩,.string ⟨#[]⟩,.slice none 0 0,.slice none 0 0],.int .i64 (6)]) (by simp [results,Tryz.results16,go_sem,r0,r1,r2,r3]) rfl (by rw [VJ.out,HE6.out];exact jN.of Ba.out (by simp) (fun h=>by cases h))
   | true=>
    have HEB:=hid (show EE=EB by rw [HE1.out];rfl);have BT:=hid (BC.out w2 B2.out);have x1:=X0.out w2 B2.out;go_wp2_with fail
    (with_reducible refine BT.out.mono ?_)
    rintro e w3 ⟨gD,v3,rfl,hrow3⟩;obtain ⟨a3,n3,c3,rfl⟩:=hrow3.slice3;have B3:=hid (aR B2.out hrow3.aP);have KB3:=hid (show Rd (W0.heap.size<=·) w3 (cZ NB) [.slice a3 n3 c3] from hrow3.fu.weaken (fun b (hb:w2.heap.size<=b)=>jjj B2.out.size hb));clear hrow3 BT x1;by_cases hB0:EB=0
    ·have q2:((EB:Int) != 0)=false:=by rw [hB0];rfl
     have HPF:=hid (show Te me l title lang=eU title lang (eG l) by rw [Y9.out,if_pos (by rw [HEB.out,hB0])]);have H0:=hid (show EE=0 by rw [HEB.out,hB0]);have KP3:=hid (show Rd (W0.heap.size<=·) w3 (cZ (eG l)) [.slice a3 n3 c3] by rw [<- Pz.out hB0];exact KB3.out);clear hB0 KB3;have PC:Hid (Calls Tryz.prog 41 #[.slice (some ⟨w3.heap.size,0,none⟩) 2 2] (w3.alloc (.cells #[.string ⟨#[99,104,97,114,115,101,116]⟩,.string ⟨#[117,116,102,45,56]⟩] 9)) (bJ (w3.alloc (.cells #[.string ⟨#[99,104,97,114,115,101,116]⟩,.string ⟨#[117,116,102,45,56]⟩] 9)) [⟨Cz,gI⟩])):=P9 Cz gI w3;have bA:jmk w3.heap.size w3 (w3.alloc (.cells #[.string ⟨#[99,104,97,114,115,101,116]⟩,.string ⟨#[117,116,102,45,56]⟩] 9)):=(jj8 _ _).alloc (jj9 _) _;go_wp2_with fail
     (with_reducible refine PC.out.mono ?_)
     rintro e w4 ⟨dU,v4,rfl,hrow4⟩;obtain ⟨a4,c4,rfl,-,-⟩:=hrow4.cap (n:=1) rfl;have b34:jmk w3.heap.size w3 w4:=bA.trans (hrow4.aP.mono bA.size);have B4:=hid (aR B3.out b34);have PR4:=hid (show Rd (W0.heap.size<=·) w4 (bS [⟨Cz,gI⟩]) [.slice a4 1 c4] from hrow4.fu.weaken (fun b hb=>jjj B3.out.size (jjj bA.size hb)));have KP4:=hid (KP3.out.aZ b34);have EC1:=hid (ko ⟨#[109,101,116,97]⟩ a4 none 1 0 c4 0 w4);clear hrow4 bA b34 PC KP3;go_wp2_with fail
     (with_reducible refine EC1.out.mono ?_)
     rintro e w5 ⟨rfl,b5⟩;have B5:=hid (aR B4.out b5);have XM5:=hid (show Rd (W0.heap.size<=·) w5 (aQ jl [⟨Cz,gI⟩] []).d [.string ⟨#[109,101,116,97]⟩,.string ⟨#[]⟩,.slice a4 1 c4,.slice none 0 0] from Nd.eu ⟨#[109,101,116,97]⟩ ⟨#[]⟩ ⟨PR4.out.aZ b5,Rd.aF _ _ _⟩);have KP5:=hid (KP4.out.aZ b5);have DC:=hid (fM title w5);clear b5 EC1 PR4 KP4;go_wp2_with fail
     (with_reducible refine DC.out.mono ?_)
     rintro e w6 ⟨Zb,v6,rfl,pV⟩;obtain ⟨a6,n6,c6,rfl⟩:=pV.slice3;have B6:=hid (aR B5.out pV.aP);have XM6:=hid (XM5.out.aZ pV.aP);have KP6:=hid (KP5.out.aZ pV.aP);have KT6:=hid (show Rd (W0.heap.size<=·) w6 (cZ (bT title)) [.slice a6 n6 c6] from pV.fu.weaken (fun b (hb:w5.heap.size<=b)=>jjj B5.out.size hb));have SE:=hid (ko ⟨#[116,105,116,108,101]⟩ none a6 0 n6 0 c6 w6);clear pV DC XM5 KP5;go_wp2_with fail
     (with_reducible refine SE.out.mono ?_)
     rintro e w7 ⟨rfl,b7⟩;have B7:=hid (aR B6.out b7);have KD7:=hid (IQ (ok:=(W0.heap.size<=·)) (w:=w7) (x:=(aQ jl [⟨Cz,gI⟩] [])) (y:=(aQ fQ [] (bT title))) B7.out.size (XM6.out.aZ b7) (Nd.eu ⟨#[116,105,116,108,101]⟩ ⟨#[]⟩ ⟨Rd.aF _ _ _,KT6.out.aZ b7⟩));have bA:jmk w7.heap.size w7 (w7.alloc (.cells #[.string ⟨#[109,101,116,97]⟩,.string ⟨#[]⟩,.slice a4 1 c4,.slice none 0 0,.string ⟨#[116,105,116,108,101]⟩,.string ⟨#[]⟩,.slice none 0 0,.slice a6 n6 c6] 35)):=(jj8 _ _).alloc (jj9 _) _;have BA7:=hid (aR B7.out bA);have Zc:=hid ((KP6.out.aZ b7).aZ bA);obtain ⟨p7,VK⟩:∃ p7,p7=w7.heap.size:=⟨_,rfl⟩;have HP7:=hid VK;have EC3:=ko ⟨#[104,101,97,100]⟩ none (some ⟨p7,0,none⟩) 0 2 0 2 (w7.alloc (.cells #[.string ⟨#[109,101,116,97]⟩,.string ⟨#[]⟩,.slice a4 1 c4,.slice none 0 0,.string ⟨#[116,105,116,108,101]⟩,.string ⟨#[]⟩,.slice none 0 0,.slice a6 n6 c6] 35));rw [<- VK] at KD7;have EC3:=hid EC3;clear b7 SE XM6 KP6 KT6 bA VK;go_wp2_with fail
     rw [<- HP7.out]
     (with_reducible refine EC3.out.mono ?_)
     rintro e w8 ⟨rfl,b8⟩;have B8:=hid (aR BA7.out b8);have XH8:=hid (show Rd (W0.heap.size<=·) w8 (aQ iU [] [(aQ jl [⟨Cz,gI⟩] []),(aQ fQ [] (bT title))]).d [.string ⟨#[104,101,97,100]⟩,.string ⟨#[]⟩,.slice none 0 0,.slice (some ⟨p7,0,none⟩) 2 2] from Nd.eu ⟨#[104,101,97,100]⟩ ⟨#[]⟩ ⟨Rd.aF _ _ _,KD7.out.aZ b8⟩);have Zd:=hid (Zc.out.aZ b8);obtain ⟨Bh,hBh⟩:∃ Bh,Bh=w8.heap.size:=⟨_,rfl⟩;obtain ⟨wH,hwH⟩:∃ wH,wH=w8.alloc (.cells #[.string ⟨#[104,101,97,100]⟩,.string ⟨#[]⟩,.slice none 0 0,.slice (some ⟨p7,0,none⟩) 2 2] 35):=⟨_,rfl⟩;have bH:jmk w8.heap.size w8 wH:=by rw [hwH];exact (jj8 _ _).alloc (jj9 _) _
     have kH:CB 35 Bh [.string ⟨#[104,101,97,100]⟩,.string ⟨#[]⟩,.slice none 0 0,.slice (some ⟨p7,0,none⟩) 2 2] wH:=by rw [hwH,hBh];exact CB.new _ _ _
     have BH:=hid (aR B8.out bH);have XHH:=hid (XH8.out.aZ bH);have KPH:=hid (Zd.out.aZ bH);have HCH:Hid (∀ y:jmj,jmk wH.heap.size wH y->y.cell? ⟨Bh,0,none⟩=some (.string ⟨#[104,101,97,100]⟩)/\y.cell? ⟨Bh,1,none⟩=some (.string ⟨#[]⟩)/\y.cell? ⟨Bh,2,none⟩=some (.slice none 0 0)/\y.cell? ⟨Bh,3,none⟩=some (.slice (some ⟨p7,0,none⟩) 2 2)):=fun y hy=>⟨(kH.below hy).cell 0 _ rfl,(kH.below hy).cell 1 _ rfl,(kH.below hy).cell 2 _ rfl,(kH.below hy).cell 3 _ rfl⟩
     clear b8 EC3 KD7 Zc XH8 Zd bH kH;go_upto_region 12 with (fail)
     rw [<- hwH,<- hBh];clear hwH hBh;refine fB 8 (fun w'=>jmk wH.heap.size wH w') (by kernel_rfl) (jj8 _ _).drew ?_;intro hH;refine qD 0 (v:=?_) rfl (by kernel_rfl) hH (by rfl) ?_ ?_;rotate_left
     ·(intro wv hSw;obtain ⟨c0,c1,c2,c3⟩:=HCH.out wv hSw;go_simp;try with_reducible rfl)
     try simp only [Act.put,jj4,jj5,jj6]
     refine qD 3 (v:=?_) rfl (by kernel_rfl) hH (by rfl) ?_ ?_;rotate_left
     ·(intro wv hSw;obtain ⟨c0,c1,c2,c3⟩:=HCH.out wv hSw;go_simp;try with_reducible rfl)
     try simp only [Act.put,jj4,jj5,jj6]
     refine qD 4 (v:=?_) rfl (by kernel_rfl) hH (by rfl) ?_ ?_;rotate_left
     ·(intro wv hSw;obtain ⟨c0,c1,c2,c3⟩:=HCH.out wv hSw;go_simp;try with_reducible rfl)
     try simp only [Act.put,jj4,jj5,jj6]
     obtain ⟨y0,hy0⟩:∃ y0,y0=wH.drew:=⟨_,rfl⟩;have Y7:jmk wH.heap.size wH y0:=by rw [hy0];exact (jj8 _ _).drew
     rw [<- hy0] at hH;rw [<- hy0];clear hy0;have LC2:Hid (Calls Tryz.prog 41 #[.slice (some ⟨y0.heap.size,0,none⟩) 2 2] (y0.alloc (.cells #[.string ⟨#[108,97,110,103]⟩,.string lang] 9)) (bJ (y0.alloc (.cells #[.string ⟨#[108,97,110,103]⟩,.string lang] 9)) [⟨iK,lang⟩])):=P9 iK lang y0;refine q01 (i:=1) rfl (by kernel_rfl) (fun KQ hK=>?_);go_simp;have B1y:jmk wH.heap.size wH (y0.alloc (.cells #[.string ⟨#[108,97,110,103]⟩,.string lang] 9)):=Y7.alloc Y7.size _;refine hK.out _ _ (fun _ _=>B1y) (fun hH2=>?_);clear hK KQ hH;have hH:=hH2 (by decide) (by kernel_rfl);clear hH2;try simp only [Act.put,jj4,jj5,jj6]
     refine q01 (i:=2) rfl (by kernel_rfl) (fun KQ hK=>?_);go_simp;go_at_call 41
     (with_reducible refine (LC2.out).mono ?_)
     rintro e y2 ⟨bR,v2,rfl,hrow2⟩;obtain ⟨a9,c9,rfl,-,-⟩:=hrow2.cap (n:=1) rfl;have B2y:jmk wH.heap.size wH y2:=B1y.trans (hrow2.aP.mono B1y.size);have Y8:=hid (show Rd (W0.heap.size<=·) y2 (bS [⟨iK,lang⟩]) [.slice a9 1 c9] from hrow2.fu.weaken (fun b hb=>jjj BH.out.size (jjj B1y.size hb)));clear hrow2 LC2;refine hK.out _ _ (fun _ _=>B2y) (fun hH2=>?_);clear hK KQ hH;have hH:=hH2 (by decide) (by kernel_rfl);clear hH2;try simp only [Act.put,jj4,jj5,jj6]
     refine q01 (i:=5) rfl (by kernel_rfl) (fun KQ hK=>?_);go_simp;go_at_call 40
     (with_reducible refine (ko ⟨#[98,111,100,121]⟩ none a3 0 n3 0 c3 y2).mono ?_)
     rintro e y3 ⟨rfl,hb⟩;have Tt:jmk wH.heap.size wH y3:=B2y.trans (hb.mono B2y.size);have PR3:=hid (Y8.out.aZ hb);have KD3:=hid (IQ (ok:=(W0.heap.size<=·)) (w:=y3) (x:=(aQ iU [] [(aQ jl [⟨Cz,gI⟩] []),(aQ fQ [] (bT title))])) (y:=(aQ gH [] (eG l))) (jjj BH.out.size Tt.size) (XHH.out.aZ Tt) (Nd.eu ⟨#[98,111,100,121]⟩ ⟨#[]⟩ ⟨Rd.aF _ _ _,KPH.out.aZ Tt⟩));have HXK:=hid (show Rd (fun b=>W0.heap.size<=b/\b<y3.heap.size) y3 (cZ [aQ jl [⟨Cz,gI⟩] [],aQ fQ [] (bT title)]) [.slice (some ⟨p7,0,none⟩) 2 2] from (QC (XHH.out.aZ Tt)).inside);have HXA:=hid (show Rd (fun b=>W0.heap.size<=b/\b<y3.heap.size) y3 (bS [⟨iK,lang⟩]) [.slice a9 1 c9] from PR3.out.inside);clear hb Y8;refine hK.out _ _ (fun _ _=>Tt) (fun hH2=>?_);clear hK KQ hH;have hH:=hH2 (by decide) (by kernel_rfl);clear hH2;try simp only [Act.put,jj4,jj5,jj6]
     refine q01 (i:=6) rfl (by kernel_rfl) (fun KQ hK=>?_);go_simp;have bA:jmk y3.heap.size y3 (y3.alloc (.cells #[.string ⟨#[104,101,97,100]⟩,.string ⟨#[]⟩,.slice none 0 0,.slice (some ⟨p7,0,none⟩) 2 2,.string ⟨#[98,111,100,121]⟩,.string ⟨#[]⟩,.slice none 0 0,.slice a3 n3 c3] 35)):=(jj8 _ _).alloc (jj9 _) _;have B6y:jmk wH.heap.size wH (y3.alloc (.cells #[.string ⟨#[104,101,97,100]⟩,.string ⟨#[]⟩,.slice none 0 0,.slice (some ⟨p7,0,none⟩) 2 2,.string ⟨#[98,111,100,121]⟩,.string ⟨#[]⟩,.slice none 0 0,.slice a3 n3 c3] 35)):=Tt.trans (bA.mono Tt.size);have PR6:=hid (PR3.out.aZ bA);have VL:=hid (HXK.out.aZ bA);have VN:=hid (HXA.out.aZ bA);have VO:=hid (CB.new 35 [.string ⟨#[104,101,97,100]⟩,.string ⟨#[]⟩,.slice none 0 0,.slice (some ⟨p7,0,none⟩) 2 2,.string ⟨#[98,111,100,121]⟩,.string ⟨#[]⟩,.slice none 0 0,.slice a3 n3 c3] y3);have HY3:=hid Tt.size;obtain ⟨y6,hN⟩:∃ y6,y6=y3.alloc (.cells #[.string ⟨#[104,101,97,100]⟩,.string ⟨#[]⟩,.slice none 0 0,.slice (some ⟨p7,0,none⟩) 2 2,.string ⟨#[98,111,100,121]⟩,.string ⟨#[]⟩,.slice none 0 0,.slice a3 n3 c3] 35):=⟨_,rfl⟩;obtain ⟨p3,hf⟩:∃ p3,p3=y3.heap.size:=⟨_,rfl⟩;rw [<- hN,<- hf] at KD3;rw [<- hN] at PR6 B6y;have VL:Hid (Rd (fun b=>W0.heap.size<=b/\b<p3) y6 (cZ [aQ jl [⟨Cz,gI⟩] [],aQ fQ [] (bT title)]) [.slice (some ⟨p7,0,none⟩) 2 2]):=by show Rd _ _ _ _;rw [hf,hN];exact VL.out
     have VN:Hid (Rd (fun b=>W0.heap.size<=b/\b<p3) y6 (bS [⟨iK,lang⟩]) [.slice a9 1 c9]):=by show Rd _ _ _ _;rw [hf,hN];exact VN.out
     have VO:Hid (CB 35 p3 [.string ⟨#[104,101,97,100]⟩,.string ⟨#[]⟩,.slice none 0 0,.slice (some ⟨p7,0,none⟩) 2 2,.string ⟨#[98,111,100,121]⟩,.string ⟨#[]⟩,.slice none 0 0,.slice a3 n3 c3] y6):=by show CB _ _ _ _;rw [hf,hN];exact VO.out
     have HY3:Hid (wH.heap.size<=p3):=by show _<=_;rw [hf];exact HY3.out
     rw [<- hN,<- hf];clear hN hf bA PR3;refine hK.out _ _ (fun _ _=>B6y) (fun hH2=>?_);clear hK KQ hH;have hH:=hH2 (by decide) (by kernel_rfl);clear hH2;try simp only [Act.put,jj4,jj5,jj6]
     refine q01 (i:=7) rfl (by kernel_rfl) (fun KQ hK=>?_);go_simp;go_at_call 40
     (with_reducible refine (ko ⟨#[104,116,109,108]⟩ a9 (some ⟨p3,0,none⟩) 1 2 c9 2 y6).mono ?_)
     rintro e y7 ⟨rfl,hb⟩;have B7y:jmk wH.heap.size wH y7:=B6y.trans (hb.mono B6y.size);have HN:=hid (show kU (W0.heap.size<=·) y7 [⟨iK,lang⟩] [(aQ iU [] [(aQ jl [⟨Cz,gI⟩] []),(aQ fQ [] (bT title))]),(aQ gH [] (eG l))] (.slice a9 1 c9) (.slice (some ⟨p3,0,none⟩) 2 2) from ⟨PR6.out.aZ hb,KD3.out.aZ hb⟩);have BL:=hid (aR BH.out B7y);have jd3:=hid (VL.out.aZ hb);have jd4:=hid (VN.out.aZ hb);have jd5:=hid (VO.out.below hb);clear hb PR6 KD3;refine hK.out _ _ (fun _ _=>B7y) (fun hH2=>?_);clear hK KQ hH;have hH:=hH2 (by decide) (by kernel_rfl);clear hH2;try simp only [Act.put,jj4,jj5,jj6]
     refine q01 (i:=8) rfl (by kernel_rfl) (fun KQ hK=>?_);obtain ⟨x0,x1,x2,x3,xf⟩:=pJ (K1.out.below BL.out);go_simp;clear x0 x1 x2 x3 xf;refine hK.out _ _ (fun h=>absurd rfl h) (fun _=>?_);clear hK KQ hH;try simp only [Act.put,jj4,jj5,jj6]
     refine q01 (i:=9) rfl (by kernel_rfl) (fun KQ hK=>?_);go_simp;refine hK.out _ _ (fun _ h=>absurd h (by decide)) (fun _=>?_);clear hK KQ;try simp only [Act.put,jj4,jj5,jj6]
     refine Li (by kernel_rfl) ?_ _;obtain ⟨w9,bO⟩:∃ w9,w9=four y7 (S+1) (.string ⟨#[104,116,109,108]⟩) (.string ⟨#[]⟩) (.slice a9 1 c9) (.slice (some ⟨p3,0,none⟩) 2 2):=⟨_,rfl⟩;have HX9:Hid (PgX w w9 title [⟨iK,lang⟩] (.slice a9 1 c9) (.slice (some ⟨p3,0,none⟩) 2 2)):=by
      have e1:=Z0.out;have e2:=BH.out.size;have e4:=HY3.out;have e5:=Cx.out;refine ⟨p3,.slice (some ⟨p7,0,none⟩) 2 2,.slice a3 n3 c3,rfl,by omega,?_,?_,?_⟩
      ·rw [bO];exact (gQ _ _ _ _ _ _ p3 (by omega)).trans jd5.out
      ·rw [bO];exact Rd.keep (fun b (hb:W0.heap.size<=b/\b<p3) _=>⟨⟨by omega,hb.2⟩,gQ _ _ _ _ _ _ b (by omega)⟩) _ _ jd3.out
      ·rw [bO];exact Rd.keep (fun b (hb:W0.heap.size<=b/\b<p3) _=>⟨⟨by omega,hb.2⟩,gQ _ _ _ _ _ _ b (by omega)⟩) _ _ jd4.out
     have hf:=fA ⟨#[104,116,109,108]⟩ ⟨#[]⟩ [⟨iK,lang⟩] [(aQ iU [] [(aQ jl [⟨Cz,gI⟩] []),(aQ fQ [] (bT title))]),(aQ gH [] (eG l))] Cx.out Z0.out B0.out K1.out BL.out HN.out;rw [<- bO] at hf;have iW:=hid hf.1;have Ba:=hid hf.2;clear hf;have hw8:=bO;simp only [four] at hw8;clear bO;rw [<- hw8];clear hw8;go_wp2;have r0:=iW.out.cell 0 _ rfl;have r1:=iW.out.cell 1 _ rfl;have r2:=iW.out.cell 2 _ rfl;have r3:=iW.out.cell 3 _ rfl;exact bodyPost_ret (v:=.tuple #[.agg #[.string ⟨#[104,116,109,108]⟩,.string ⟨#[]⟩,.slice a9 1 c9,.slice (some ⟨p3,0,none⟩) 2 2],.int .i64 (0)]) (by simp [results,Tryz.results16,go_sem,r0,r1,r2,r3]) rfl (by rw [HPF.out,H0.out];exact jN.of Ba.out (by simp) (fun _ va vk e=>by
      simp only [Value.agg.injEq,Array.mk.injEq,List.cons.injEq,and_true] at e;obtain ⟨-,-,rfl,rfl⟩:=e;exact HX9.out))
    ·have q2:((EB:Int) != 0)=true:=by rw [bne_iff_ne];omega
     have VJ:=hid (show Te me l title lang=mP by rw [Y9.out,if_neg (by rw [HEB.out];exact hB0)]);obtain ⟨x0,x1,x2,x3,xf⟩:=pJ (K1.out.below B3.out);obtain ⟨w9,bO⟩:∃ w9,w9=four w3 (S+1) (.string ⟨#[]⟩) (.string ⟨#[]⟩) (.slice none 0 0) (.slice none 0 0):=⟨_,rfl⟩;have hf:=fA ⟨#[]⟩ ⟨#[]⟩ [] [] Cx.out Z0.out B0.out K1.out B3.out ⟨Rd.aF _ _ _,Rd.aF _ _ _⟩;rw [<- bO] at hf;have iW:=hid hf.1;have Ba:=hid hf.2;clear hf;have hw8:=bO;simp only [four] at hw8;clear bO;go_wp2;rw [<- hw8];have r0:=iW.out.cell 0 _ rfl;have r1:=iW.out.cell 1 _ rfl;have r2:=iW.out.cell 2 _ rfl;have r3:=iW.out.cell 3 _ rfl;exact bodyPost_ret (v:=.tuple #[.agg #[.string ⟨#[]⟩,.string ⟨#[]⟩,.slice none 0 0,.slice none 0 0],.int .i64 (EB)]) (by simp [results,Tryz.results16,go_sem,r0,r1,r2,r3]) rfl (by rw [VJ.out,HEB.out];exact jN.of Ba.out (by simp) (fun h=>absurd h hB0))
 ·have q1:((E0:Int) != 0)=true:=by rw [bne_iff_ne];omega
  have HE9:=hid (show EE=E0 by rw [Xy.out,if_pos h0]);have VJ:=hid (show Te me l title lang=mP by rw [Y9.out,if_neg (by rw [HE9.out];exact h0)]);obtain ⟨x0,x1,x2,x3,xf⟩:=pJ (K1.out.below B1.out);obtain ⟨w9,bO⟩:∃ w9,w9=four w1 (S+1) (.string ⟨#[]⟩) (.string ⟨#[]⟩) (.slice none 0 0) (.slice none 0 0):=⟨_,rfl⟩;have hf:=fA ⟨#[]⟩ ⟨#[]⟩ [] [] Cx.out Z0.out B0.out K1.out B1.out ⟨Rd.aF _ _ _,Rd.aF _ _ _⟩;rw [<- bO] at hf;have iW:=hid hf.1;have Ba:=hid hf.2;clear hf;have hw8:=bO;simp only [four] at hw8;clear bO;go_wp2;rw [<- hw8];have r0:=iW.out.cell 0 _ rfl;have r1:=iW.out.cell 1 _ rfl;have r2:=iW.out.cell 2 _ rfl;have r3:=iW.out.cell 3 _ rfl;exact bodyPost_ret (v:=.tuple #[.agg #[.string ⟨#[]⟩,.string ⟨#[]⟩,.slice none 0 0,.slice none 0 0],.int .i64 (E0)]) (by simp [results,Tryz.results16,go_sem,r0,r1,r2,r3]) rfl (by rw [VJ.out,HE9.out];exact jN.of Ba.out (by simp) (fun h=>absurd h h0))
open Go.RowKit
open Go.RowKit
open Go.RowKit
open Go.RowKit
open Go.RowKit
open Go.RowKit
structure SmB (l:List ah):Prop where
 sm:ah.aG l
 sz:ah.aV l<=120
 il:(ah.aU l).length<=120
 al:ah.bV l<=120
theorem VP {me:List Pr} {l:List ah} (h:MW me l):SmB l:=by have h1:=ah.Bn l;have h2:=h.all;exact ⟨h.blks,by omega,by omega,h2⟩
theorem QD (me:List Pr) (l:List ah) (vm vb:Value) (w:jmj) (hm:Rd (·<w.heap.size) w (bS me) [vm]) (hb:Rd (·<w.heap.size) w (iO l) [vb]) (VQ:∀ p∈me,p.wf) (hwl:ah.sJ l) : Calls Tryz.prog 11 #[.agg #[vm,vb]] w fun e w'=>∃ b,e=.returned (.bool b)/\(b=true->MW me l/\SmB l)/\jmk w.heap.size w w':=
 (J3 me l vm vb w hm hb VQ hwl).mono fun e w' ⟨b,h1,h2,h3⟩=>⟨b,h1,fun h=>⟨h2 h,VP (h2 h)⟩,h3⟩
end Go.Proofs.YtkfnkeflalcphaaGreatDoor

