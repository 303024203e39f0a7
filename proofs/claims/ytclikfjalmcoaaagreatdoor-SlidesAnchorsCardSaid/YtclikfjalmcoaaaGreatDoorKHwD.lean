/- Contracts of html.Line and publisherref34.Line. Plain part: the errors and the nodes of Blocks and Page; the small case of layer 34. What the statements of layer 34 share: text, same, has; Small at a document with one block that has a line only. Plain part: the notes of a well-formed document: what the walks ask of their blocks. Contract of html.Blocks: the nodes of blocks, with their notes behind them, or the error. Contract of html.Page: the page of a document, or the error. Plain part: how many values of an attribute the nodes of a document have; the anchors of its page. Plain part: the page with slides has each anchor as often as the page. The small case with which each statement of layer 34 ends: it answers true. Plain part: what the walk of publisherref34.block asks of a block; a well-formed, small document without unresolved inlines has it. Plain part: what the walk of the reference asks of the blocks of a well-formed document, and of its notes. Contracts of publisherref34.table, and of publisherref34.block at a table. Contracts of publisherref34.block and publisherref34.inner: the nodes of blocks. Contract of publisherref34.Blocks: the nodes of blocks, with their notes behind them, or the error. Contracts of publisherref34.line, Errors, Frame and Page. The walk of publisherlaw34.HtmlBlocks. -/
import Derived.Test.YtclikfjalmcoaaaGreatDoorKRpF
import Derived.Test.YtclikfjalmcoaaaGreatDoorKHtY
set_option maxHeartbeats 8000000
set_option maxRecDepth 100000
open Go.Lib (hid)
namespace Go.Proofs.YtclikfjalmcoaaaGreatDoor
open List renaming setIfInBounds_toArray->ji3,set_cons_zero->ji4,set_cons_succ->ji5,length_append->jiq,length_map->jix,length_cons->jiz,append_nil->jl6
open Go.RowKit.Below renaming refl->ji7
open Nat renaming le_refl->ji8,le_trans->ji9,zero_le->jj3
open Go.World renaming size_alloc->jj5
open Go renaming World->jl9
open Go.RowKit renaming Below->jlj
open Go.RowKit
set_option linter.unusedVariables false
set_option linter.unusedSimpArgs false
def gV (w:jl9) (E:Nat) (L:List Nd) (e:Ending) (w':jl9):Prop:=
 ∃ rows v,e=.returned (.tuple #[v,.int .i64 (E:Int)])/\ay 43 4 (fun _=>False) w'.heap.size w (L.map Nd.d) rows v w'
theorem gV.nil {w w':jl9} {E:Nat} {L:List Nd} (hL:L=[]) (h:jlj w.heap.size w w'):gV w E L (.returned (.tuple #[.slice none 0 0,.int .i64 (E:Int)])) w':=by subst hL;exact ⟨[],_,rfl,((ay.nil _ _ _ w).below h).top⟩
def zH (l:List ah):Nat:=if ah.aX pV 0 0 l≠0 then ah.aX pV 0 0 l else if (ah.aQ l).any iO=true then 5 else 0
def Ta (l:List ah):List Nd:=if zH l=0 then oh l else []
def Eb (me:List Pr) (l:List ah) (title lang:ByteArray):Nat:=
 if iL pV me l≠0 then iL pV me l else if iH title=false then 17 else if jA lang=false then 6 else if (ah.aQ l).any iO=true then 5 else 0
def mK:Nd:=.mk ⟨#[]⟩ ⟨#[]⟩ [] []
def IY (me:List Pr) (l:List ah) (title lang:ByteArray):Nd:=if Eb me l title lang=0 then tY title lang (oh l) else mK
theorem Gb {me:List Pr} {l:List ah} (h:iL pV me l=0):ah.aX pV 0 0 l=0:=by
 unfold iL at h;split at h
 ·cases h
 ·split at h
  ·rename_i h1;exact absurd h h1
  ·exact h
theorem vW {l:List ah} (h:zH l=0):ah.aX pV 0 0 l=0/\(ah.aQ l).any iO=false:=by
 unfold zH at h;split at h
 ·rename_i h1;exact absurd h h1
 ·rename_i h1
  split at h
  ·cases h
  ·rename_i h2
   exact ⟨Classical.not_not.1 h1,by simpa using h2⟩
theorem Ec {me:List Pr} {l:List ah} {title lang:ByteArray} (h:Eb me l title lang=0):iL pV me l=0/\iH title=true/\jA lang=true/\(ah.aQ l).any iO=false:=by
 unfold Eb at h;split at h
 ·rename_i h1;exact absurd h h1
 ·rename_i h1
  split at h
  ·cases h
  ·rename_i h2
   split at h
   ·cases h
   ·rename_i h3
    split at h
    ·cases h
    ·rename_i h4
     exact ⟨Classical.not_not.1 h1,by simpa using h2,by simpa using h3,by simpa using h4⟩
theorem Vz {me:List Pr} {l:List ah} {title lang:ByteArray} (h:Eb me l title lang=0):zH l=0:=by obtain ⟨h1,-,-,h4⟩:=Ec h;unfold zH;rw [if_neg (by rw [Gb h1];simp),h4];rfl
theorem J6 (s:ByteArray):(((At.err ⟨⟨#[]⟩,[],[⟨⟨#[116,105,116,108,101]⟩,s⟩]⟩:Nat):Int)==0)=iH s:=by
 have h1:jA (⟨#[116,105,116,108,101]⟩:ByteArray)=true:=by decide +kernel
 have h2:dJ [] [⟨⟨#[116,105,116,108,101]⟩,s⟩]=if iH s=false then 17 else 0:=by
  rw [dJ,h1];have h0:hasB [] (⟨#[116,105,116,108,101]⟩:ByteArray)=false:=rfl;rw [if_neg (by decide),h0];split
  ·rfl
  ·rfl
 cases hs:iH s with
 | true=>
  rw [hs] at h2;have h3:At.err ⟨⟨#[]⟩,[],[⟨⟨#[116,105,116,108,101]⟩,s⟩]⟩=0:=by unfold At.err;rw [h2];rfl
  rw [h3];rfl
 | false=>
  rw [hs] at h2;have h3:At.err ⟨⟨#[]⟩,[],[⟨⟨#[116,105,116,108,101]⟩,s⟩]⟩=17:=by unfold At.err;rw [h2];rfl
  rw [h3];rfl
theorem Qv {l:List ah} (h:zH l=0):ah.sD l:=by obtain ⟨h1,h2⟩:=vW h;exact ah.nG pV l 0 0 (by decide) (by decide) h1 (by rw [ah.jc];exact h2)
def eAt:At:=⟨⟨#[]⟩,[],[]⟩
def Qw (t:ByteArray):aj:=.mk 1 t ⟨#[]⟩ ⟨#[]⟩ eAt [] [] []
theorem YQ:Eb [] [] ⟨#[84]⟩ ⟨#[101,110]⟩=0:=by decide +kernel
open Go.RowKit
def eC (t:ByteArray):List Value:=[.int .i64 1,.string t,.string ⟨#[]⟩,.string ⟨#[]⟩,.string ⟨#[]⟩,.slice none 0 0,.slice none 0 0,.slice none 0 0,.slice none 0 0,.slice none 0 0]
theorem Rd.Tc {ok:Nat->Prop} {w:jl9} {k:Nat} {l:List D} {rows:List (List Value)} {b cap:Nat} (hl:l.length<=cap) (hm:cap<=maxLen) (h:aP ok w l rows) (hk:∀ r∈rows,r.length=k) (hok:ok b) (hb:b<w.heap.size) (hc:∀ j u,rows.flatten[j]?=some u->w.cell? ⟨b,j,none⟩=some u):Rd ok w (.sl k l) [.slice (some ⟨b,0,none⟩) l.length cap]:=by unfold Rd;exact ⟨_,cap,rows,rfl,hl,hm,h,hk,.inr ⟨b,0,rfl,hok,hb,fun j u hu=>by rw [Nat.zero_add];exact hc j u hu⟩⟩
theorem VB (ok:Nat->Prop) (w:jl9):AtR ok w eAt (.slice none 0 0) (.slice none 0 0):=⟨Rd.aF _ _ _,Rd.aF _ _ _⟩
theorem VD (ok:Nat->Prop) (w:jl9) (t:ByteArray):Rd ok w (Qw t).d (eC t):=aj.eD 1 t ⟨#[]⟩ ⟨#[]⟩ ⟨VB _ _,Rd.aF _ _ _,Rd.aF _ _ _,Rd.aF _ _ _⟩
mutual
theorem ah.Qx (cl:ByteArray->Bool):∀ (b:ah) (par:Int) (dp:Nat),b.err cl par dp=0->b.bG.any iO=false->∀ x∈b.each,(∃ d',ah.aX cl x.CF d' x.kids=0)/\(ah.dw x.kids).any iO=false/\ah.aY x.kids<=b.sz
 | .mk k lv i t d ti a li ks,par,dp,h,hu,x,hx=>by
  obtain ⟨h2,hbf,h3⟩:=ku cl h;rw [ah.bG,List.any_append,Bool.or_eq_false_iff] at hu;rw [ah.each] at hx;rw [ah.sz];rcases List.mem_cons.1 hx with rfl | hx
  ·exact ⟨⟨dp+1,h3⟩,hu.2,by show ah.aY ks<=_;omega⟩
  ·obtain ⟨g1,g2,g3⟩:=ah.vX cl ks k (dp+1) h3 hu.2 x hx;exact ⟨g1,g2,by omega⟩
theorem ah.vX (cl:ByteArray->Bool):∀ (l:List ah) (par:Int) (dp:Nat),ah.aX cl par dp l=0->(ah.dw l).any iO=false->∀ x∈ah.aO l,(∃ d',ah.aX cl x.CF d' x.kids=0)/\(ah.dw x.kids).any iO=false/\ah.aY x.kids<=ah.aY l
 | [],_,_,_,_,x,hx=>by rw [ah.aO] at hx;cases hx
 | y::l,par,dp,h,hu,x,hx=>by
  rw [ah.aX] at h;rw [ah.dw,List.any_append,Bool.or_eq_false_iff] at hu;rw [ah.aO] at hx;rw [ah.aY];by_cases h1:y.err cl par dp≠0
  ·rw [if_pos h1] at h;exact absurd h h1
  ·rw [if_neg h1] at h;rcases List.mem_append.1 hx with hx | hx
   ·obtain ⟨g1,g2,g3⟩:=ah.Qx cl y par dp (Classical.not_not.1 h1) hu.1 x hx;exact ⟨g1,g2,by omega⟩
   ·obtain ⟨g1,g2,g3⟩:=ah.vX cl l par dp h hu.2 x hx;exact ⟨g1,g2,by omega⟩
end
theorem MO (l:List ah) (h:zH l=0) (hsm:ah.aD l) (hz:ah.aY l<=900000):ah.ko l/\∀ x∈ah.aO l,x.CF=14->ah.ko x.kids/\ah.aY x.kids<=900000:=by obtain ⟨h1,h2⟩:=vW h;have h3:=Qv h;refine ⟨ah.pK pV l 0 0 h1 h3 hsm hz,fun x hx hk=>?_⟩;obtain ⟨⟨d',g1⟩,g2,g3⟩:=ah.vX pV l 0 0 h1 (by rw [ah.jc];exact h2) x hx;rw [hk] at g1;have g4:=(oI (ah.jM l hsm x hx)).1;have g5:=ah.nG pV x.kids 14 d' (by decide) (by decide) g1 g2;exact ⟨ah.pK pV _ 14 d' g1 g5 g4 (by omega),by omega⟩
mutual
theorem MP:∀ (b:ah),b.each.length=b.sz
 | .mk k lv i t d ti a li ks=>by rw [ah.each,ah.sz,jiz,nI ks];omega
theorem nI:∀ (l:List ah),(ah.aO l).length=ah.aY l
 | []=>by rw [ah.aO,ah.aY];rfl
 | x::l=>by rw [ah.aO,ah.aY,jiq,MP x,nI l]
end
theorem Gc {x:ah} (h:x.small):x.iOf.size<=300:=by obtain ⟨k,lv,i,t,d,ti,a,li,ks⟩:=x;rw [ah.small] at h;exact h.1
theorem oK:∀ (l:List ah),(l.flatMap gI).length<=l.length
 | []=>by simp
 | x::l=>by
  have h:=oK l;rw [List.flatMap_cons,jiq,jiz];have h2:(gI x).length<=1:=by obtain ⟨k,lv,i,t,d,ti,a,li,ks⟩:=x;unfold gI;dsimp only;split<;>simp
  omega
open Go.RowKit Go.Shelf
attribute [local go_sem] Oper.semAt_some
theorem tL.ok {S Bb N0:Nat} (h1:S<=Bb) (h2:Bb<N0):MQ S (tL Bb N0) where
 below h:=h.below h1 h2
 Xn h hb:=(h.YK _ _ _ _ hb (by decide) (by decide)).trans hb
 VE h hb:=(h.YK _ _ _ _ hb (by decide) (by decide)).trans hb
theorem Vw.zI {Bb N0:Nat} {L:List Nd} {W W':jl9} {row:Option Nat} (h:Vw Bb N0 L W) (hB:Bb<N0) (hg:W.grownBy W' row) (hr:∀ r,row=some r->N0<=r/\∃ o:Obj,W.heap[r]?=some o/\o.isCells=false):Vw Bb N0 L W':=by obtain ⟨wB,rows,v,h1,h2,h3⟩:=h;refine ⟨wB,rows,v,h1,(h2.zI hg (fun r e=>⟨by have:=(hr r e).1;omega,(hr r e).2⟩)).up hg.size (ji8 _),?_⟩;exact (hg.block Bb h3.lt (fun e=>by have:=(hr Bb e.symm).1;omega)).trans h3
theorem Gd {c:Code} {Q:Exit->Act->jl9->Prop} {a:Act} {w:jl9} (h:c.wp Tryz.prog (fun e a w=>(∀ x,e≠Exit.panic x)/\Q e a w) a w):c.wp Tryz.prog Q a w:=Code.wp_mono (fun _ _ _ h=>h.2) h
def Qy (b:ah):Prop:=b.iOf.size<=300/\(b.CF=14->ah.ko b.kids/\ah.aY b.kids<=900000)
def BV.cs (x:BV):List Value:=[.int .i64 x.kd,.int .i64 x.lv,.string x.i,.string x.t,.string x.d,.string x.ti,.string x.at_.id,x.vc,x.vp,x.vl,x.vk]
def YR (Bb:Nat):Value:=.func (.func 56) #[] #[.pointer (some ⟨Bb,0,none⟩)]
def Td (Bb Bf Bl:Nat) (s o v2:Value) (E:Int) (x:BV) (Bx:Nat):Act:={ tmps:=#[s,undef,.slice none 0 0,.int .i64 0,.int .i64 E,.pointer (some ⟨Bb,0,none⟩),o,.pointer (some ⟨Bf,0,none⟩),.pointer (some ⟨Bx,0,none⟩),s,.int .i64 E,.int .i64 E,.bool false,undef,s,v2,.bool false,s,o,YR Bb,s,.func (.func 107) #[] #[.pointer (some ⟨Bl,0,none⟩)],x.enc,undef,undef,undef,undef,undef,undef,undef,undef,undef,undef,undef,undef,undef,undef,undef,undef,undef,undef,undef,undef,undef],defers:=[] }
def BtX (N0 Bb Bf Bl:Nat) (s o v2:Value) (E:Int) (x:BV) (a':Act) (W:jl9):Prop:=∃ Bx,N0<=Bx/\CB 30 Bx x.cs W/\a'=Td Bb Bf Bl s o v2 E x Bx
theorem BtX.own {N0 Bb Bf Bl B:Nat} {s o v2:Value} {E:Int} {x:BV} {a':Act}:OwnFrom B (fun (_:Unit) W=>BtX N0 Bb Bf Bl s o v2 E x a' W):=fun _ W W' row ⟨Bx,h1,h2,h3⟩ hg hr=>
 ⟨Bx,h1,(hg.block Bx h2.lt (fun e=>by
  obtain ⟨_,o,k1,k2⟩:=hr Bx e.symm;unfold CB at h2;rw [h2] at k1;cases k1;cases k2)).trans h2,h3⟩
def Te (Bb N0 S:Nat) (w W0:jl9) (pre:List (BW S w Qy)) (W:jl9):Prop:=Vw Bb N0 ((tZ pre).flatMap gI) W/\tL Bb N0 W0 W
theorem Te.own {Bb N0 S:Nat} {w W0:jl9} (hB:Bb<N0) (hz:N0=W0.heap.size):OwnFrom N0 (Te Bb N0 S w W0):=fun s W W' row h hg hr=>
 ⟨h.1.zI hB hg hr,h.2.trans (tL.grown hg (by have:=h.2.size;omega) hr)⟩
theorem MR {fn:Func} {R:Ending->jl9->Prop} {a:Act} {w:jl9} {v:Value} (hd:a.defers=[]) (hr:(results fn a.tmps).run Tryz.prog w=.ok v w) (h:R (.returned v) w):bodyPostM Fence.wide 3 Tryz.prog fn R .ret a w:=by show LeavesInM _ _ _ _ _ _ a.defers _ _;rw [hd];unfold LeavesInM LeavesIn;exact ⟨v,hr,h⟩
theorem MS {n:Nat} {fn:Func} {R:Ending->jl9->Prop} {a:Act} {w:jl9} {v:Value} {D:Nat} (hd:a.defers=[{ target:=.collected D,args:=#[] }]) (hf:w.heap[D]?=some (.deferred (some []))) (hr:∀ w',(results fn a.tmps).run Tryz.prog w'=.ok v w') (h:R (.returned v) (w.putObj D (.deferred none))):bodyPostM Fence.wide n Tryz.prog fn R .ret a w:=by show LeavesInM _ _ _ _ _ _ a.defers _ _;rw [hd];refine ⟨by simp,.inl ⟨D,_,rfl,run_takeDeferred hf,?_⟩⟩;exact ⟨v,hr _,h⟩
theorem gV.YS {w W:jl9} {E:Nat} {L:List Nd} {v:Value} {D:Nat} (h:gV w E L (.returned v) W) (hD:w.heap.size<=D) (hf:W.heap[D]?=some (.deferred (some []))):gV w E L (.returned v) (W.putObj D (.deferred none)):=by obtain ⟨rows,v',he,hr⟩:=h;have hg:=grownBy_putObj' W D (.deferred none);exact ⟨rows,v',he,(hr.zI hg (fun r e=>by cases e;exact ⟨hD,_,hf,rfl⟩)).up hg.size (ji8 _)⟩
theorem IZ (l:List ah) (v:Value) (w:jl9) (hrd:Rd (·<w.heap.size) w (jg l) [v]) (hsm:ah.aD l) (hsz:ah.aY l<=900000) (hil:(ah.aQ l).length<=1000) (hbd:ah.kK l) (ht:PT w) : Calls Tryz.prog 20 #[v] w (gV w (zH l) (Ta l)):=by
 obtain ⟨iN,Fg,nR,nT,nU⟩:=info_parts l9;obtain ⟨a,cap,hv,-⟩:=Rd.aG hrd;obtain ⟨nl,hnl⟩:∃ nl,nl=l.length:=⟨_,rfl⟩;obtain rfl:v=.slice a nl cap:=by rw [hnl];simpa using hv
 have LC:=rY pV l a cap w hsm (fun _=>Ed) (by rw [<- hnl];exact hrd);rw [<- hnl] at LC;have lJ:=hid LC;clear hv LC hnl;obtain ⟨S,hS⟩:∃ S,S=w.heap.size:=⟨_,rfl⟩;have Fj:=hid hrd;have jH:=hid hsm;have oF:Hid (∀ W:jl9,jlj S w W->PT W):=fun W hW=>ht.below (by rw [<- hS];exact hW)
 have hee:zH l=if ah.aX pV 0 0 l≠0 then ah.aX pV 0 0 l else if (ah.aQ l).any iO=true then 5 else 0:=rfl
 have hnn:Ta l=if zH l=0 then oh l else []:=rfl
 have HW:=hid (fun h:zH l=0=>MO l h hsm hsz);have IC:Hid (∀ W:jl9,jlj S w W->Calls Tryz.prog 49 #[.slice a nl cap] W (fun e w'=>∃ v',e=.returned v'/\Rd (fun _=>True) w' (bG (ah.aQ l)) [v']/\jlj W.heap.size W w')):=fun W hW=>by
  refine (Ee l (.slice a nl cap) W (hrd.up (by rw [<- hS];exact hW)) hbd (by omega) (by omega)).mono ?_;rintro e w2 ⟨v2,bV,rfl,hown2,YT,zJ,b2⟩;exact ⟨v2,rfl,Rd.lu (by rw [jix];exact hown2) YT zJ (fun _ _=>trivial),b2⟩
 obtain ⟨E0,hE0⟩:∃ E0,E0=ah.aX pV 0 0 l:=⟨_,rfl⟩;obtain ⟨EE,Li⟩:∃ EE,EE=zH l:=⟨_,rfl⟩;obtain ⟨NN,Tf⟩:∃ NN,NN=Ta l:=⟨_,rfl⟩;rw [<- hE0] at lJ hee;rw [<- Li] at hee hnn HW;rw [<- Tf] at hnn;rw [<- Li,<- Tf];have Xo:=hid hee;have HNN:=hid hnn;have HS:=hid hS;clear hrd hee hnn hE0 Li Tf ht hS;refine (callsIn_wide (n:=3)).1 ?_;refine callsIn_of_wp_marks Tryz.func20 rfl trivial ?_ rfl;simp only [Tryz.ntmps20,List.size_toArray,jiz,List.length_nil,Nat.reduceAdd,Nat.reduceSub,Array.replicate_succ,Array.replicate_zero,List.push_toArray,List.append_toArray,List.nil_append,List.cons_append];refine wpIn_wide.2 ?_;go_wp2_with fail
 (with_reducible refine lJ.out.mono ?_)
 rintro e w1 ⟨rfl,b1⟩;have B1:Hid (jlj S w w1):=by rw [HS.out];exact b1
 clear b1 lJ;by_cases h0:E0=0
 ·have q1:((E0:Int) != 0)=false:=by rw [h0];rfl
  have VF:Hid (EE=if (ah.aQ l).any iO=true then 5 else 0):=by show _=_;rw [Xo.out,if_neg (by simp [h0])]
  have IL:=hid (IC.out w1 B1.out);clear h0;go_wp2_with fail
  (with_reducible refine IL.out.mono ?_)
  rintro e w2 ⟨v2,rfl,MU,b2⟩;have UL:=hid (FP (ah.aQ l) _ v2 w2 MU);obtain ⟨a2,n2,c2,rfl⟩:=Rd.au MU;have B2:=hid (B1.out.trans (b2.mono (by have:=B1.out.size;have:=HS.out;omega)));clear MU b2 IL;go_wp2_with fail
  (with_reducible refine UL.out.mono ?_)
  rintro e w3 ⟨rfl,b3⟩;have B3:=hid (B2.out.trans (b3.mono (by have:=B2.out.size;have:=HS.out;omega)));obtain ⟨u,hu⟩:∃ u,u=(ah.aQ l).any iO:=⟨_,rfl⟩;rw [<- hu] at VF;rw [<- hu];clear b3 UL hu;cases u with
  | true=>
   have HF:Hid (gV w EE NN (.returned (.tuple #[.slice none 0 0,.int .i64 5])) w3):=by
    have h5:EE=5:=by rw [VF.out];rfl
    rw [h5];exact gV.nil (by rw [HNN.out,h5];rfl) (by rw [<- HS.out];exact B3.out)
   go_wp2;exact MR rfl (by simp [results,Tryz.results20,go_sem]) HF.out
  | false=>
   have hE:EE=0:=by rw [VF.out];rfl
   obtain ⟨hw1,hw3⟩:=HW.out hE;have Tg:=hid (show NN=oh l by rw [HNN.out,hE];rfl);have HE:=hid hE;have HWN:=hid (show ∀ b∈ah.aO l,Qy b from fun b hb=>⟨Gc (ah.jM l jH.out b hb),fun hk=>hw3 b hb hk⟩);have HEL:=hid (show (ah.aO l).length<=900000 by rw [nI];exact hsz);have qJ:=hid (show (ah.aW l).length<=900000 from ji9 (vv l) (ji9 (ah.dB l) hsz));obtain ⟨Bb,hBb⟩:∃ Bb,Bb=w3.heap.size:=⟨_,rfl⟩;obtain ⟨w4,hw4⟩:∃ w4,w4=w3.alloc (.cells #[.slice none 0 0] 84):=⟨_,rfl⟩;have k4:aI Bb (.slice none 0 0) 84 w4:=by rw [hw4,hBb];exact aI.new _ _ _
   have b4:jlj S w w4:=by rw [hw4];exact B3.out.alloc (by have:=B3.out.size;have:=HS.out;omega) _
   have hSB:S<=Bb:=by have:=B3.out.size;have:=HS.out;omega
   have z4:w4.heap.size=Bb+1:=by rw [hw4,jj5,hBb]
   have HC:=hid (sw (.pointer (some ⟨Bb,0,none⟩)) 900000 l (.slice a nl cap) w4 hsz (by omega) (Fj.out.up (by rw [<- HS.out];exact b4)) hw1 (oF.out w4 b4));have K4:=hid k4;have B4:=hid b4;have Z4:=hid z4;clear hE hw1 hw3 k4 b4 z4;go_upto_region 7 with (fail)
   rw [<- hw4,<- hBb];clear hw4 hBb;go_wp2_with fail
   (with_reducible refine HC.out.mono ?_)
   rintro e w5 ⟨vR,v5,rfl,bS⟩;obtain ⟨n5,Ti⟩:∃ n5,n5=((ah.aW l).map Nd.d).length:=⟨_,rfl⟩;have jh2:n5<=900000:=by rw [Ti,jix];exact qJ.out
   obtain ⟨a5,c5,rfl,-,-⟩:=bS.cap Ti.symm;have HN5:=hid Ti.symm;have Tj:=hid bS;have B45:=hid bS.aT;clear bS Ti HC;obtain ⟨Bf,YU⟩:∃ Bf,Bf=w5.heap.size:=⟨_,rfl⟩;obtain ⟨w6,jB⟩:∃ w6,w6=w5.alloc (.cells #[YR Bb] 88):=⟨_,rfl⟩;obtain ⟨W0,hW0⟩:∃ W0,W0=w6.alloc (.cells #[.slice a nl cap] 28):=⟨_,rfl⟩;have z6:w6.heap.size=Bf+1:=by rw [jB,jj5,YU]
   have zz:W0.heap.size=Bf+2:=by rw [hW0,jj5,z6]
   have jc6:=B45.out.size;have jh3:Bb<Bf:=by have:=Z4.out;omega
   have g5:jlj w5.heap.size w5 W0:=by rw [hW0,jB];exact ((ji7 _ _).alloc (ji8 _) _).alloc (by rw [jj5];omega) _
   have bF:aI Bf (YR Bb) 88 W0:=by rw [hW0,jB,YU];exact (aI.new _ _ _).alloc _
   have bL:aI (Bf+1) (.slice a nl cap) 28 W0:=by rw [hW0,<- z6];exact aI.new _ _ _
   have bB:aI Bb (.slice none 0 0) 84 W0:=(K4.out.below (B:=w4.heap.size) (by have:=Z4.out;omega) B45.out).below (B:=w5.heap.size) (by omega) g5;have bl0:jlj S w W0:=(B4.out.trans (B45.out.mono (by have:=Z4.out;omega))).trans (g5.mono (by have:=Z4.out;omega));have HR5:=hid (Tj.out.below g5);have hU5:w5.heap.size=Bf:=YU.symm;have N0:Te Bb W0.heap.size S w W0 [] W0:=⟨⟨W0,[],.slice none 0 0,rfl,ay.nil _ _ _ _,bB⟩,tL.refl _ _ _⟩;have HFB:=hid (show aI Bf (YR Bb) 88 W0 from bF);have hnf:∀ (x:Nat) (wx:jl9),Sem.run Tryz.prog (binOp BinOp.eql 90 (Value.func (Fn.func 107) #[] #[Value.pointer (some ⟨x,0,none⟩)]) Value.nilFunc) wx=.ok (.bool false) wx:=fun x wx=>by rfl
   have HBS:=hid (show Rd (·<S) w (jg l) [.slice a nl cap] by rw [HS.out];exact Fj.out);have EC:=hid (MV a nl cap w6);rw [<- hW0,z6] at EC;have HU5:=hid hU5;have HZZ:=hid zz;clear bF bB g5 z6 jc6 Tj hU5 hW0;have YV:YR Bb=.func (.func 56) #[] #[.pointer (some ⟨Bb,0,none⟩)]:=rfl;rw [YV] at jB;go_upto_region 9 with (fail)
   rw [<- jB,<- YU];clear jB YU YV;go_wp2_with fail
   (with_reducible refine EC.out.mono ?_)
   rintro e w7 ⟨rfl,hw7⟩;rw [hw7];clear EC hw7 w7;go_wp2_with fail
   obtain ⟨s0,hs0⟩:∃ s0,s0=Value.slice a nl cap:=⟨_,rfl⟩;have hN0:W0.heap.size=Bf+2:=HZZ.out;have hBN:Bb<W0.heap.size:=by omega
   refine wpIn_wide (n:=3) |>.1 ?_
   refine wpIn_rangeFunc_ownH (α:=BW S w Qy) rfl (by decide) (gf:=107) (lb:=#[.pointer (some ⟨Bf+1,0,none⟩)]) rfl trivial (enters_of Tryz.func107 (by kernel_rfl) rfl)
    (Gf 2 (Bf+1) S Qy l (.slice a nl cap) w W0 (tL Bb W0.heap.size) (tL.ok hSB hBN) HWN.out HBS.out bl0 (by omega) bL) (fun h k=>h.trans k) (fun W l o o' h1 h2 h3 _=>tL.obj Bb W0.heap.size W l o o' h1 h2 h3) (ji7 _ _) (fun _=>rfl)
    (Te Bb W0.heap.size S w W0) (fun _ _ _=>False) (Te.own hBN rfl) (fun c s A B row h _ _=>h) N0
    (fun x a' W=>BtX W0.heap.size Bb Bf (Bf+1) (.slice a nl cap) (.slice a5 n5 c5) (.slice a2 n2 c2) (E0:Int) x.1 a' W) (fun x a'=>BtX.own) ?assign ?body ?done ?stop
   case stop=>rintro D c pre W _ _ h _;exact h.elim
   case assign=>
    rintro l0 pre ⟨⟨kd,lv,i,t,d,ti,at_,li,ks,vc,vp,vl,vk⟩,hR,jh4⟩ W K hi hK;dsimp only at hR hK;obtain ⟨ac,nc,cc,rfl⟩:=Rd.au hR.at_.cls
    obtain ⟨ap,np,cp,rfl⟩:=Rd.au hR.at_.aR
    obtain ⟨al,nl2,cl,rfl⟩:=Rd.au hR.line;obtain ⟨ak,nk,ck,rfl⟩:=Rd.au hR.kids;have HI:=hid hi;have HK:=hid hK;clear hi hK;dsimp only [BV.enc]
    gi_wp2
    have hsz:=HI.out.2.size;exact HK.out _ _ ((KeepsOthers.alloc _ _).from _) (tL.grown (World.grownBy_alloc _ _ none) hsz (fun r e=>by cases e)) ⟨HI.out.1.zI hBN (World.grownBy_alloc _ _ none) (fun r e=>by cases e),HI.out.2.trans (tL.grown (World.grownBy_alloc _ _ none) hsz (fun r e=>by cases e))⟩ ⟨W.heap.size,hsz,heap_alloc_new W _,rfl⟩
   case body=>
    rintro l0 pre x a' W hl0 _ hN ⟨Bx,hBx,I5,rfl⟩ hlen;have hR:=x.2.1;have Tk:=x.2.2;obtain ⟨y,hy⟩:∃ y,y=x.1:=⟨_,rfl⟩;rw [<- hy] at hR I5 Tk ⊢;have HEQ:Hid ((tZ (pre++[x])).flatMap gI=(tZ pre).flatMap gI++gI y.blk):=by show _=_;rw [jk,List.flatMap_append,hy];show _++List.flatMap gI [x.1.blk]=_;rw [List.flatMap_cons,List.flatMap_nil,jl6]
    have YW:((tZ pre).flatMap gI).length<=1000000:=by have h1:=oK (tZ pre);rw [vY] at h1;have:=HEL.out;omega
    obtain ⟨kd,lv,i,t,d,ti,at_,li,ks,vc,vp,vl,vk⟩:=y;dsimp only at hR;have Tk:i.size<=300/\(kd=14->ah.ko ks/\ah.aY ks<=900000):=Tk;obtain ⟨ac,nc,cc,rfl⟩:=Rd.au hR.at_.cls
    obtain ⟨ap,np,cp,rfl⟩:=Rd.au hR.at_.aR
    obtain ⟨al,nl2,cl,rfl⟩:=Rd.au hR.line;obtain ⟨ak,nk,ck,rfl⟩:=Rd.au hR.kids;have c0:=I5.cell 0 _ rfl;have hSW:=hN.2.size;have hbW:jlj S w W:=bl0.trans (hN.2.below (S:=S) hSB hBN);have HN:=hid hN;dsimp only at c0;clear hlen hy hN;unfold Td;dsimp only [BV.enc];by_cases hk:kd=14
    ·subst hk;have q1:((14:Int)==14)=true:=rfl;have c1:=I5.cell 1 _ rfl;have c2:=I5.cell 2 _ rfl;have c3:=I5.cell 3 _ rfl;have c4:=I5.cell 4 _ rfl;have c5:=I5.cell 5 _ rfl;have c6:=I5.cell 6 _ rfl;have c7:=I5.cell 7 _ rfl;have c8:=I5.cell 8 _ rfl;have c9:=I5.cell 9 _ rfl;have c10:=I5.cell 10 _ rfl;dsimp only at c1 c2 c3 c4 c5 c6 c7 c8 c9 c10;have bxF:W.cell? ⟨Bf,0,none⟩=some (.func (.func 56) #[] #[.pointer (some ⟨Bb,0,none⟩)]):=aI.cell (t:=88) ((HN.out.2.blk Bf (by omega) (by omega)).trans HFB.out);have hCA:=D9 Bb W0.heap.size ((tZ pre).flatMap gI) 14 lv i t d ti at_ li ks (.slice ac nc cc) (.slice ap np cp) (.slice al nl2 cl) (.slice ak nk ck) W hBN (hR.DJ (fun b (hb:b<S) hlt=>⟨by omega,hbW.block b hb⟩)) (Tk.2 rfl).1 (Tk.2 rfl).2 Tk.1 (oF.out W hbW) YW HN.out.1
     have HCA:=hid hCA;have hno:gI (BV.blk ⟨14,lv,i,t,d,ti,at_,li,ks,.slice ac nc cc,.slice ap np cp,.slice al nl2 cl,.slice ak nk ck⟩)=[aV oH [⟨dR,Bn++i⟩,⟨fJ,fT⟩] (ah.aW ks)]:=rfl;have Uy:=hid hno;clear hno hCA I5 hR Tk
     gi_wp2_with fail
     refine ⟨trivial,?_⟩;refine (CallsIn.inRound l0 (callsIn_wide.2 HCA.out)).mono ?_;rintro e W2 ⟨rfl,hBu,hKp,hSt⟩;have HP:Hid (Te Bb W0.heap.size S w W0 (pre++[x]) W2):=by refine ⟨?_,HN.out.2.trans hKp⟩;rw [HEQ.out,Uy.out];exact hBu
     have HKF:Hid (KeepsFrom W0.heap.size W W2):=⟨hKp.size,fun k o hk' ho hc=>hSt k o ho hc⟩;have Xp:=hid hKp;clear hBu hKp hSt c0 c1 c2 c3 c4 c5 c6 c7 c8 c9 c10 bxF HCA;dsimp only
     gi_wp2
     exact ⟨HKF.out,Xp.out,HP.out⟩
    ·have q1:(kd==14)=false:=by rw [beq_eq_false_iff_ne];exact hk
     have HP:Hid (Te Bb W0.heap.size S w W0 (pre++[x]) W):=by
      have hno:gI (BV.blk ⟨kd,lv,i,t,d,ti,at_,li,ks,.slice ac nc cc,.slice ap np cp,.slice al nl2 cl,.slice ak nk ck⟩)=[]:=by show gI (.mk kd lv i t d ti at_ li ks)=_;unfold gI;exact if_neg hk
      refine ⟨?_,HN.out.2⟩;rw [HEQ.out,hno,jl6];exact HN.out.1
     clear hk I5 hR Tk
     gi_wp2
     exact ⟨(KeepsOthers.refl _).from _,tL.refl _ _ _,HP.out⟩
   case done=>
    rintro D pre W hD hpre hN hK;rw [Te,hpre] at hN;obtain ⟨⟨wB,rows,vN,SG,hrow,hbx⟩,hkp⟩:=hN;have hnt:(ah.aO l).flatMap gI=yJ l:=rfl;rw [hnt] at hrow;obtain ⟨m,hm⟩:∃ m,m=((yJ l).map Nd.d).length:=⟨_,rfl⟩;have hm1:m<=900000:=by rw [hm,jix];exact ji9 (oK (ah.aO l)) HEL.out
    obtain ⟨av,cv,rfl,-,-⟩:=hrow.cap hm.symm;have hbl:jlj S w W:=bl0.trans (hkp.below (S:=S) hSB hBN);have hDW:D<W.heap.size:=(Array.getElem?_eq_some_iff.1 hK).1;have hBZ:w5.heap.size=Bf:=HU5.out;obtain ⟨wO,hzO,hrO⟩:=HR5.out.reU (w':=W) hkp.size (fun b h1 h2=>hkp.blk b (by omega) (by have:=Z4.out;omega));have HO:=hid hrO;have YX:=hid hzO;have HK:=hid hK;have FD:=hid hbl;have bZ:=hid hrow;have Cw:=hid SG;have HSW:=hid hkp.size;have x0:=hbx.cell;have Xq:Hid (∀ y:jl9,jlj W.heap.size W y->y.cell? ⟨Bb,0,none⟩=some (.slice av m cv)):=fun y hy=>(hbx.below (by have:=hkp.size;omega) hy).cell
    have hml:(yJ l).length=m:=by rw [hm,jix]
    have HML:=hid hml;clear hrO hzO hK hbl hrow SG hbx hpre hm hkp hml hnt;by_cases hm0:m=0
    ·have q8:¬ (0:Int)<(m:Int):=by omega
     have HF:Hid (gV w EE NN (.returned (.tuple #[.slice a5 n5 c5,.int .i64 0])) W):=by
      have Tf:NN=ah.aW l:=by rw [Tg.out];unfold oh;rw [if_pos (by rw [List.isEmpty_iff,<- List.length_eq_zero_iff,HML.out];exact hm0),jl6]
      rw [HE.out,Tf];exact ⟨_,_,rfl,(HO.out.vD (by have:=YX.out;have:=HS.out;have:=Z4.out;omega) (by rw [<- HS.out];exact FD.out)).top⟩
     have HF2:=hid (HF.out.YS (by have:=HS.out;omega) HK.out);clear HF;go_wp2;exact MS rfl HK.out (fun w'=>by simp [results,Tryz.results20,go_sem]) HF2.out
    ·have q8:(0:Int)<(m:Int):=by omega
     have Tf:NN=ah.aW l++[aV dM [⟨fJ,mM⟩] (yJ l)]:=by rw [Tg.out];unfold oh;rw [if_neg (by rw [List.isEmpty_iff,<- List.length_eq_zero_iff,HML.out];exact hm0)]
     have jc7:=hid Tf;clear Tf;go_upto_region 14 with (fail)
     refine Gd ?_;refine SH 9 (fun w'=>w'.cell? ⟨Bb,0,none⟩=some (.slice av m cv)) (by kernel_rfl) (Xq.out W.drew (ji7 _ _).drew) ?_;intro hH;refine fU (i:=0) (v:=?_) rfl (by kernel_rfl) (by kernel_rfl) (by kernel_rfl) (by kernel_rfl) (by kernel_rfl) (fun _ _ _ h=>absurd rfl (h.1 _)) hH (Or.inl ⟨by rfl,?_⟩) ?_;rotate_left
     ·(intro wv hSw;(try dsimp only at hSw);go_simp;try with_reducible rfl)
     try simp only [Act.put,ji3,ji4,ji5]
     refine fU (i:=3) (v:=?_) rfl (by kernel_rfl) (by kernel_rfl) (by kernel_rfl) (by kernel_rfl) (by kernel_rfl) (fun _ _ _ h=>absurd rfl (h.1 _)) hH (Or.inl ⟨by rfl,?_⟩) ?_;rotate_left
     ·(intro wv hSw;(try dsimp only at hSw);go_simp;try with_reducible rfl)
     try simp only [Act.put,ji3,ji4,ji5]
     refine fU (i:=4) (v:=?_) rfl (by kernel_rfl) (by kernel_rfl) (by kernel_rfl) (by kernel_rfl) (by kernel_rfl) (fun _ _ _ h=>absurd rfl (h.1 _)) hH (Or.inl ⟨by rfl,?_⟩) ?_;rotate_left
     ·(intro wv hSw;(try dsimp only at hSw);go_simp;try with_reducible rfl)
     try simp only [Act.put,ji3,ji4,ji5]
     refine fU (i:=5) (v:=?_) rfl (by kernel_rfl) (by kernel_rfl) (by kernel_rfl) (by kernel_rfl) (by kernel_rfl) (fun _ _ _ h=>absurd rfl (h.1 _)) hH (Or.inl ⟨by rfl,?_⟩) ?_;rotate_left
     ·(intro wv hSw;(try dsimp only at hSw);go_simp;try with_reducible rfl)
     try simp only [Act.put,ji3,ji4,ji5]
     obtain ⟨y0,hy0⟩:∃ y0,y0=W.drew:=⟨_,rfl⟩;have YZ:jlj W.heap.size W y0:=by rw [hy0];exact (ji7 _ _).drew
     rw [<- hy0] at hH;rw [<- hy0];clear hy0;have PC:Hid (Calls Tryz.prog 58 #[.slice (some ⟨y0.heap.size,0,none⟩) 2 2] (y0.alloc (.cells #[.string ⟨#[99,108,97,115,115]⟩,.string ⟨#[110,111,116,101,115]⟩] 9)) (bO (y0.alloc (.cells #[.string ⟨#[99,108,97,115,115]⟩,.string ⟨#[110,111,116,101,115]⟩] 9)) [⟨fJ,mM⟩])):=P6 fJ mM y0;refine q01 (i:=1) rfl (by kernel_rfl) (fun KQ hK=>?_);go_simp;have B1:jlj W.heap.size W (y0.alloc (.cells #[.string ⟨#[99,108,97,115,115]⟩,.string ⟨#[110,111,116,101,115]⟩] 9)):=YZ.alloc YZ.size _;refine hK.out _ _ (fun _ _=>Xq.out _ B1) (fun hH2=>?_);clear hK KQ hH;have hH:=hH2 (by decide) (by kernel_rfl);clear hH2;try simp only [Act.put,ji3,ji4,ji5]
     refine q01 (i:=2) rfl (by kernel_rfl) (fun KQ hK=>?_);go_simp;go_at_call 58
     (with_reducible refine (PC.out).mono ?_)
     rintro e y2 ⟨bV,v2,rfl,hrow2⟩;obtain ⟨a9,c9,rfl,-,-⟩:=hrow2.cap (n:=1) rfl;have B2:jlj W.heap.size W y2:=B1.trans (hrow2.aT.mono B1.size);have Y0:=hid (show Rd (W.heap.size<=·) y2 (bX [⟨fJ,mM⟩]) [.slice a9 1 c9] from hrow2.fA.weaken (fun b hb=>ji9 B1.size hb));clear hrow2 PC;refine hK.out _ _ (fun _ _=>Xq.out _ B2) (fun hH2=>?_);clear hK KQ hH;have hH:=hH2 (by decide) (by kernel_rfl);clear hH2;try simp only [Act.put,ji3,ji4,ji5]
     refine q01 (i:=6) rfl (by kernel_rfl) (fun KQ hK=>?_);go_simp;go_at_call 57
     (with_reducible refine (iT ⟨#[115,101,99,116,105,111,110]⟩ a9 av 1 m c9 cv y2).mono ?_)
     rintro e y3 ⟨rfl,hb⟩;have B3:jlj W.heap.size W y3:=B2.trans (hb.mono B2.size);have XD:=hid (show Rd (fun b=>False\/w5.heap.size<=b) y3 (aV dM [⟨fJ,mM⟩] (yJ l)).d [.string ⟨#[115,101,99,116,105,111,110]⟩,.string ⟨#[]⟩,.slice a9 1 c9,.slice av m cv] from (Nd.eD ⟨#[115,101,99,116,105,111,110]⟩ ⟨#[]⟩ ⟨(Y0.out.bq hb).weaken (fun b (hb:W.heap.size<=b)=>by have:=HSW.out;show w5.heap.size<=b;omega),(bZ.out.fA.bq B3).weaken (fun b (hb:wB.heap.size<=b)=>by have:=Cw.out;show w5.heap.size<=b;omega)⟩).weaken (fun b hb=>.inr hb));have U3:=hid (HO.out.below B3);have K3:=hid (show y3.heap[D]?=some (.deferred (some [])) from (B3.block D hDW).trans HK.out);have hD3:D<y3.heap.size:=Nat.lt_of_lt_of_le hDW B3.size;clear hb;refine hK.out _ _ (fun _ _=>Xq.out _ B3) (fun hH2=>?_);clear hK KQ hH;have hH:=hH2 (by decide) (by kernel_rfl);clear hH2;try simp only [Act.put,ji3,ji4,ji5]
     refine q01 (i:=7) rfl (by kernel_rfl) (fun KQ hK=>?_);go_simp;refine hK.out _ _ (fun _ _=>Xq.out _ (B3.alloc B3.size _)) (fun hH2=>?_);clear hK KQ hH;have hH:=hH2 (by decide) (by kernel_rfl);clear hH2;try simp only [Act.put,ji3,ji4,ji5]
     refine q01 (i:=8) rfl (by kernel_rfl) (fun KQ hK=>?_);refine uU (n:=n5) rfl (.tmp 34) (.tmp 41) 34 rfl iN _ 80 Tryz.underlying34 Fg nR nT nU rfl (by decide) U3.out (fun _=>False.elim) (aV dM [⟨fJ,mM⟩] (yJ l)).d [.string ⟨#[115,101,99,116,105,111,110]⟩,.string ⟨#[]⟩,.slice a9 1 c9,.slice av m cv] XD.out rfl jJ HN5.out (by omega) (by decide) rfl rfl ?_;intro a6 c6 w8 zK Xr;have hoD:some D≠(Value.slice a5 n5 c5).ownBlock:=fun e=>by have:=U3.out.oU D e.symm;omega
     have K8:w8.heap[D]?=some (.deferred (some [])):=(Xr.block D (by rw [jj5];omega) hoD).trans ((Below.heap_alloc y3 _ D hD3).trans K3.out);have B8:jlj w.heap.size w w8:=by have h1:jlj S wO w8:=zK.aT.mono (by have:=YX.out;have:=Z4.out;omega);have h2:jlj S w y3:=FD.out.trans (B3.mono (by have:=FD.out.size;have:=HS.out;omega));rw [<- HS.out];exact (h2.alloc (by have:=h2.size;have:=HS.out;omega) _).grown Xr (by rw [jj5];have:=h2.size;have:=HS.out;omega) (fun j hj=>by have:=U3.out.own.lt j hj;have:=YX.out;have:=Z4.out;omega)
     have HF:gV w EE NN (.returned (.tuple #[.slice a6 (n5+1) c6,.int .i64 0])) w8:=by rw [HE.out,jc7.out];refine ⟨vR++[[.string ⟨#[115,101,99,116,105,111,110]⟩,.string ⟨#[]⟩,.slice a9 1 c9,.slice av m cv]],_,rfl,?_⟩;rw [List.map_append];exact zK.vD (by have:=YX.out;have:=HS.out;have:=Z4.out;omega) B8
     have HF2:=hid (HF.YS (by have:=HS.out;omega) K8);have HK8:=hid K8;have cb8:w8.cell? ⟨Bb,0,none⟩=some (.slice av m cv):=by
      have hBl:Bb<y3.heap.size:=by omega
      rw [kS (Xr.block Bb (by rw [jj5];omega) (fun e=>by have:=(U3.out.own.lt Bb e.symm).1;have:=YX.out;have:=Z4.out;omega))];exact Xq.out _ (B3.alloc B3.size _)
     clear zK Xr HF B8 K8 hoD;refine hK.out _ _ (fun _ _=>cb8) (fun hH2=>?_);clear hK KQ hH;have hH:=hH2 (by decide) (by kernel_rfl);clear hH2;try simp only [Act.put,ji3,ji4,ji5]
     refine q01 (i:=9) rfl (by kernel_rfl) (fun KQ hK=>?_);go_simp;refine hK.out _ _ (fun h=>absurd rfl h) (fun _=>?_);clear hK KQ hH;try simp only [Act.put,ji3,ji4,ji5]
     refine Ba (by kernel_rfl) ?_ _;refine ⟨fun _ h=>(by cases h),?_⟩;clear XD U3 Y0;go_wp2;exact MS rfl HK8.out (fun w'=>by simp [results,Tryz.results20,go_sem]) HF2.out
 ·have q1:((E0:Int) != 0)=true:=by rw [bne_iff_ne];omega
  have HF:Hid (gV w EE NN (.returned (.tuple #[.slice none 0 0,.int .i64 (E0:Int)])) w1):=by
   have h5:EE=E0:=by rw [Xo.out,if_pos (by simpa using h0)]
   rw [h5];exact gV.nil (by rw [HNN.out,h5,if_neg h0]) (by rw [<- HS.out];exact B1.out)
  clear h0;go_wp2;exact MR rfl (by simp [results,Tryz.results20,go_sem]) HF.out
open Go.RowKit
theorem Qz {ok:Nat->Prop} {w:jl9} {n t:ByteArray} {a:List Pr} {ks:List Nd} {va vk:Value} (h:Rd ok w (Nd.mk n t a ks).d [.string n,.string t,va,vk]):Rd ok w (cZ ks) [vk]:=by obtain ⟨va',Xt,e,hR⟩:=Nd.open_ h;simp only [List.cons.injEq,and_true,true_and] at e;obtain ⟨rfl,rfl⟩:=e;exact hR.ks
def PgX (w w':jl9) (title:ByteArray) (at_:List Pr) (va vk:Value):Prop:=
 ∃ (p3:Nat) (kh bv:Value),vk=.slice (some ⟨p3,0,none⟩) 2 2/\w.heap.size<=p3/\CB 43 p3 [.string gJ,.string ⟨#[]⟩,.slice none 0 0,kh,.string fC,.string ⟨#[]⟩,.slice none 0 0,bv] w' /\
  Rd (fun b=>w.heap.size<=b/\b<p3) w' (cZ [aV gK [⟨zL,fD⟩] [],aV dN [] (bP title)]) [kh]/\Rd (fun b=>w.heap.size<=b/\b<p3) w' (bX at_) [va]
def jN (w:jl9) (title:ByteArray) (E:Nat) (x:Nd) (e:Ending) (w':jl9):Prop:=
 ∃ va vk,e=.returned (.tuple #[.agg #[.string x.nm,.string x.tx,va,vk],.int .i64 (E:Int)])/\jT (w.heap.size<=·) w' x.at_ x.ks va vk/\jlj w.heap.size w w'/\(E=0->PgX w w' title x.at_ va vk)
theorem jN.of {w w':jl9} {title:ByteArray} {E:Nat} {E':Int} {x:Nd} {v:Value} (h:rZ w x (.returned v) w') (hE:E'=(E:Int)) (hx:E=0->∀ va vk,v=.agg #[.string x.nm,.string x.tx,va,vk]->PgX w w' title x.at_ va vk):jN w title E x (.returned (.tuple #[v,.int .i64 E'])) w':=by
 obtain ⟨va,vk,he,h1,h2⟩:=h;subst hE;injection he with he
 exact ⟨va,vk,by rw [he],h1,h2,fun h0=>hx h0 va vk he⟩
theorem vZ (me:List Pr) (l:List ah) (title lang:ByteArray) (vm vb:Value) (w:jl9) (hm:Rd (·<w.heap.size) w (bX me) [vm]) (hb:Rd (·<w.heap.size) w (jg l) [vb]) (hme:me.length<=1000) (jG:∀ p∈me,p.key.size<=1000/\p.val.size<=1000) (hall:ah.bY l<=32768) (hsm:ah.aD l) (hsz:ah.aY l<=900000) (hil:(ah.aQ l).length<=1000) (hbd:ah.kK l) (hti:title.size<=300) (hla:lang.size<=300) (ht:PT w) : Calls Tryz.prog 22 #[.agg #[vm,vb],.string title,.string lang] w (jN w title (Eb me l title lang) (IY me l title lang)):=by
 obtain ⟨am,cm,VG,-⟩:=Rd.aG hm;obtain ⟨nm,hnm⟩:∃ nm,nm=me.length:=⟨_,rfl⟩;obtain rfl:vm=.slice am nm cm:=by rw [hnm];simpa using VG
 obtain ⟨ab,nb,cb,rfl⟩:=Rd.au hb;clear VG;obtain ⟨S,W0,hS,hW0,z0,k0,k1,b0⟩:=qN 32 w [.slice am nm cm,.slice ab nb cb];have J7:jlj w.heap.size w W0:=by rw [<- hS];exact b0
 have CK:=FN pV me l am ab cm nb cb W0 hme jG hall hsm (fun _=>Ed) (by rw [<- hnm];exact hm.up J7) (hb.up J7);rw [<- hnm] at CK;have BC:Hid (∀ W:jl9,jlj W0.heap.size W0 W->Calls Tryz.prog 20 #[.slice ab nb cb] W (gV W (zH l) (Ta l))):=fun W hW=>IZ l _ W (hb.up (J7.trans (hW.mono J7.size))) hsm hsz hil hbd (ht.below (J7.trans (hW.mono J7.size)))
 have LC:Hid (∀ W:jl9,Calls Tryz.prog 66 #[.string title] W (dS (.bool (iH title)) W)):=fun W=>by
  have h:=Dz title W (by omega);rw [J6] at h;exact h
 have NC:Hid (∀ W:jl9,Calls Tryz.prog 67 #[.string lang] W (fun e w'=>e=.returned (.bool (jA lang))/\W=w')):=fun W=>Ld lang W (by omega)
 obtain ⟨EE,Li⟩:∃ EE,EE=Eb me l title lang:=⟨_,rfl⟩;obtain ⟨E0,hE0⟩:∃ E0,E0=iL pV me l:=⟨_,rfl⟩;obtain ⟨T,hT⟩:∃ T,T=iH title:=⟨_,rfl⟩;obtain ⟨G,hG⟩:∃ G,G=jA lang:=⟨_,rfl⟩;obtain ⟨EB,VH⟩:∃ EB,EB=zH l:=⟨_,rfl⟩;obtain ⟨NB,hNB⟩:∃ NB,NB=Ta l:=⟨_,rfl⟩;have hee:EE=if E0≠0 then E0 else if T=false then 17 else if G=false then 6 else EB:=by
  rw [Li,hE0,hT,hG,VH];unfold Eb;by_cases h0:iL pV me l≠0
  ·rw [if_pos h0,if_pos h0]
  ·rw [if_neg h0,if_neg h0];have h1:zH l=if (ah.aQ l).any iO=true then 5 else 0:=by
    unfold zH;rw [if_neg (by rw [Gb (Classical.not_not.1 h0)];simp)]
   rw [h1]
 have hpn:IY me l title lang=if EE=0 then tY title lang (oh l) else mK:=by rw [Li];rfl
 have hnb:EB=0->NB=oh l:=fun h=>by rw [hNB];unfold Ta;rw [if_pos (VH.symm.trans h)]
 rw [<- hE0] at CK;rw [<- hT] at LC;rw [<- hG] at NC;rw [<- VH,<- hNB] at BC;rw [<- Li];have HCK:=hid CK;have Xo:=hid hee;have Y1:=hid hpn;have Y2:=hid hnb;have Cy:=hid hS;have HW0:=hid hW0;have Z0:=hid z0;have B0:=hid b0;have K1:=hid k1;have X0:Hid (∀ W:jl9,jlj W0.heap.size W0 W->W.cell? ⟨S,1,none⟩=some (.slice ab nb cb)):=fun W hW=>(k0.below hW).cell 1 _ rfl
 have x0:=k0.cell 0 _ rfl;have x1:=k0.cell 1 _ rfl;clear CK hm hb hme jG hall hsm hsz hil hbd hti hla ht Li hE0 hT hG VH hNB hee hpn hnb hS hW0 z0 b0 k1 k0 J7 hnm;go_enter Tryz.func22,Tryz.ntmps22;go_upto_region 1 with (fail)
 rw [<- Cy.out];have hk0:=HW0.out;simp only [jI] at hk0;rw [<- hk0];clear hk0;go_wp2_with fail
 (with_reducible refine HCK.out.mono ?_)
 rintro e w1 ⟨rfl,b1⟩;have B1:=hid b1;clear b1 HCK x0 x1;by_cases h0:E0=0
 ·have q1:((E0:Int) != 0)=false:=by rw [h0];rfl
  have HE1:Hid (EE=if T=false then 17 else if G=false then 6 else EB):=by show _=_;rw [Xo.out,if_neg (by simp [h0])]
  have LT:=hid (LC.out w1);clear h0 Xo;go_wp2_with fail
  (with_reducible refine LT.out.mono ?_)
  rintro e w2 ⟨rfl,b2⟩;have B2:=hid (aZ B1.out b2);clear b2 LT;cases T with
  | false=>
   have Y3:=hid (show EE=17 by rw [HE1.out];rfl);have VI:=hid (show IY me l title lang=mK by rw [Y1.out,Y3.out];rfl);obtain ⟨x0,x1,x2,x3,xf⟩:=mZ (K1.out.below B2.out);obtain ⟨w9,bT⟩:∃ w9,w9=four w2 (S+1) (.string ⟨#[]⟩) (.string ⟨#[]⟩) (.slice none 0 0) (.slice none 0 0):=⟨_,rfl⟩;have hf:=fB ⟨#[]⟩ ⟨#[]⟩ [] [] Cy.out Z0.out B0.out K1.out B2.out ⟨Rd.aF _ _ _,Rd.aF _ _ _⟩;rw [<- bT] at hf;have iU:=hid hf.1;have Bc:=hid hf.2;clear hf;have hw8:=bT;simp only [four] at hw8;clear bT;go_wp2;rw [<- hw8];have r0:=iU.out.cell 0 _ rfl;have r1:=iU.out.cell 1 _ rfl;have r2:=iU.out.cell 2 _ rfl;have r3:=iU.out.cell 3 _ rfl;exact bodyPost_ret (v:=.tuple #[.agg #[.string ⟨#[]⟩,.string ⟨#[]⟩,.slice none 0 0,.slice none 0 0],.int .i64 (17)]) (by simp [results,Tryz.results22,go_sem,r0,r1,r2,r3]) rfl (by rw [VI.out,Y3.out];exact jN.of Bc.out (by simp) (fun h=>by cases h))
  | true=>
   have NT:=hid (NC.out w2);go_wp2_with fail
   (with_reducible refine NT.out.mono ?_)
   rintro e w3 ⟨rfl,hw3⟩;rw [<- hw3];clear NT hw3 w3;cases G with
   | false=>
    have HE6:=hid (show EE=6 by rw [HE1.out];rfl);have VI:=hid (show IY me l title lang=mK by rw [Y1.out,HE6.out];rfl);obtain ⟨x0,x1,x2,x3,xf⟩:=mZ (K1.out.below B2.out);obtain ⟨w9,bT⟩:∃ w9,w9=four w2 (S+1) (.string ⟨#[]⟩) (.string ⟨#[]⟩) (.slice none 0 0) (.slice none 0 0):=⟨_,rfl⟩;have hf:=fB ⟨#[]⟩ ⟨#[]⟩ [] [] Cy.out Z0.out B0.out K1.out B2.out ⟨Rd.aF _ _ _,Rd.aF _ _ _⟩;rw [<- bT] at hf;have iU:=hid hf.1;have Bc:=hid hf.2;clear hf;have hw8:=bT;simp only [four] at hw8;clear bT;go_wp2;rw [<- hw8];have r0:=iU.out.cell 0 _ rfl;have r1:=iU.out.cell 1 _ rfl;have r2:=iU.out.cell 2 _ rfl;have r3:=iU.out.cell 3 _ rfl;exact bodyPost_ret (v:=.tuple #[.agg #[.string ⟨#[]⟩,.string ⟨#[]⟩,.slice none 0 0,.slice none 0 0],.int .i64 (6)]) (by simp [results,Tryz.results22,go_sem,r0,r1,r2,r3]) rfl (by rw [VI.out,HE6.out];exact jN.of Bc.out (by simp) (fun h=>by cases h))
   | true=>
    have HEB:=hid (show EE=EB by rw [HE1.out];rfl);have BT:=hid (BC.out w2 B2.out);have x1:=X0.out w2 B2.out;go_wp2_with fail
    (with_reducible refine BT.out.mono ?_)
    rintro e w3 ⟨gG,v3,rfl,hrow3⟩;obtain ⟨a3,n3,c3,rfl⟩:=hrow3.slice3;have B3:=hid (aZ B2.out hrow3.aT);have KB3:=hid (show Rd (W0.heap.size<=·) w3 (cZ NB) [.slice a3 n3 c3] from hrow3.fA.weaken (fun b (hb:w2.heap.size<=b)=>ji9 B2.out.size hb));clear hrow3 BT x1;by_cases hB0:EB=0
    ·have q2:((EB:Int) != 0)=false:=by rw [hB0];rfl
     have HPF:=hid (show IY me l title lang=tY title lang (oh l) by rw [Y1.out,if_pos (by rw [HEB.out,hB0])]);have H0:=hid (show EE=0 by rw [HEB.out,hB0]);have KP3:=hid (show Rd (W0.heap.size<=·) w3 (cZ (oh l)) [.slice a3 n3 c3] by rw [<- Y2.out hB0];exact KB3.out);clear hB0 KB3;have PC:Hid (Calls Tryz.prog 58 #[.slice (some ⟨w3.heap.size,0,none⟩) 2 2] (w3.alloc (.cells #[.string ⟨#[99,104,97,114,115,101,116]⟩,.string ⟨#[117,116,102,45,56]⟩] 9)) (bO (w3.alloc (.cells #[.string ⟨#[99,104,97,114,115,101,116]⟩,.string ⟨#[117,116,102,45,56]⟩] 9)) [⟨zL,fD⟩])):=P6 zL fD w3;have bA:jlj w3.heap.size w3 (w3.alloc (.cells #[.string ⟨#[99,104,97,114,115,101,116]⟩,.string ⟨#[117,116,102,45,56]⟩] 9)):=(ji7 _ _).alloc (ji8 _) _;go_wp2_with fail
     (with_reducible refine PC.out.mono ?_)
     rintro e w4 ⟨dW,v4,rfl,hrow4⟩;obtain ⟨a4,c4,rfl,-,-⟩:=hrow4.cap (n:=1) rfl;have b34:jlj w3.heap.size w3 w4:=bA.trans (hrow4.aT.mono bA.size);have B4:=hid (aZ B3.out b34);have PR4:=hid (show Rd (W0.heap.size<=·) w4 (bX [⟨zL,fD⟩]) [.slice a4 1 c4] from hrow4.fA.weaken (fun b hb=>ji9 B3.out.size (ji9 bA.size hb)));have KP4:=hid (KP3.out.bq b34);have EC1:=hid (iT ⟨#[109,101,116,97]⟩ a4 none 1 0 c4 0 w4);clear hrow4 bA b34 PC KP3;go_wp2_with fail
     (with_reducible refine EC1.out.mono ?_)
     rintro e w5 ⟨rfl,b5⟩;have B5:=hid (aZ B4.out b5);have XM5:=hid (show Rd (W0.heap.size<=·) w5 (aV gK [⟨zL,fD⟩] []).d [.string ⟨#[109,101,116,97]⟩,.string ⟨#[]⟩,.slice a4 1 c4,.slice none 0 0] from Nd.eD ⟨#[109,101,116,97]⟩ ⟨#[]⟩ ⟨PR4.out.bq b5,Rd.aF _ _ _⟩);have KP5:=hid (KP4.out.bq b5);have DC:=hid (fP title w5);clear b5 EC1 PR4 KP4;go_wp2_with fail
     (with_reducible refine DC.out.mono ?_)
     rintro e w6 ⟨Y4,v6,rfl,pR⟩;obtain ⟨a6,n6,c6,rfl⟩:=pR.slice3;have B6:=hid (aZ B5.out pR.aT);have XM6:=hid (XM5.out.bq pR.aT);have KP6:=hid (KP5.out.bq pR.aT);have KT6:=hid (show Rd (W0.heap.size<=·) w6 (cZ (bP title)) [.slice a6 n6 c6] from pR.fA.weaken (fun b (hb:w5.heap.size<=b)=>ji9 B5.out.size hb));have Sz:=hid (iT ⟨#[116,105,116,108,101]⟩ none a6 0 n6 0 c6 w6);clear pR DC XM5 KP5;go_wp2_with fail
     (with_reducible refine Sz.out.mono ?_)
     rintro e w7 ⟨rfl,b7⟩;have B7:=hid (aZ B6.out b7);have KD7:=hid (I6 (ok:=(W0.heap.size<=·)) (w:=w7) (x:=(aV gK [⟨zL,fD⟩] [])) (y:=(aV dN [] (bP title))) B7.out.size (XM6.out.bq b7) (Nd.eD ⟨#[116,105,116,108,101]⟩ ⟨#[]⟩ ⟨Rd.aF _ _ _,KT6.out.bq b7⟩));have bA:jlj w7.heap.size w7 (w7.alloc (.cells #[.string ⟨#[109,101,116,97]⟩,.string ⟨#[]⟩,.slice a4 1 c4,.slice none 0 0,.string ⟨#[116,105,116,108,101]⟩,.string ⟨#[]⟩,.slice none 0 0,.slice a6 n6 c6] 43)):=(ji7 _ _).alloc (ji8 _) _;have BA7:=hid (aZ B7.out bA);have Y5:=hid ((KP6.out.bq b7).bq bA);obtain ⟨p7,VJ⟩:∃ p7,p7=w7.heap.size:=⟨_,rfl⟩;have HP7:=hid VJ;have EC3:=iT ⟨#[104,101,97,100]⟩ none (some ⟨p7,0,none⟩) 0 2 0 2 (w7.alloc (.cells #[.string ⟨#[109,101,116,97]⟩,.string ⟨#[]⟩,.slice a4 1 c4,.slice none 0 0,.string ⟨#[116,105,116,108,101]⟩,.string ⟨#[]⟩,.slice none 0 0,.slice a6 n6 c6] 43));rw [<- VJ] at KD7;have EC3:=hid EC3;clear b7 Sz XM6 KP6 KT6 bA VJ;go_wp2_with fail
     rw [<- HP7.out]
     (with_reducible refine EC3.out.mono ?_)
     rintro e w8 ⟨rfl,b8⟩;have B8:=hid (aZ BA7.out b8);have XH8:=hid (show Rd (W0.heap.size<=·) w8 (aV gJ [] [(aV gK [⟨zL,fD⟩] []),(aV dN [] (bP title))]).d [.string ⟨#[104,101,97,100]⟩,.string ⟨#[]⟩,.slice none 0 0,.slice (some ⟨p7,0,none⟩) 2 2] from Nd.eD ⟨#[104,101,97,100]⟩ ⟨#[]⟩ ⟨Rd.aF _ _ _,KD7.out.bq b8⟩);have Y6:=hid (Y5.out.bq b8);obtain ⟨Bh,hBh⟩:∃ Bh,Bh=w8.heap.size:=⟨_,rfl⟩;obtain ⟨wH,hwH⟩:∃ wH,wH=w8.alloc (.cells #[.string ⟨#[104,101,97,100]⟩,.string ⟨#[]⟩,.slice none 0 0,.slice (some ⟨p7,0,none⟩) 2 2] 43):=⟨_,rfl⟩;have bH:jlj w8.heap.size w8 wH:=by rw [hwH];exact (ji7 _ _).alloc (ji8 _) _
     have kH:CB 43 Bh [.string ⟨#[104,101,97,100]⟩,.string ⟨#[]⟩,.slice none 0 0,.slice (some ⟨p7,0,none⟩) 2 2] wH:=by rw [hwH,hBh];exact CB.new _ _ _
     have BH:=hid (aZ B8.out bH);have XHH:=hid (XH8.out.bq bH);have KPH:=hid (Y6.out.bq bH);have HCH:Hid (∀ y:jl9,jlj wH.heap.size wH y->y.cell? ⟨Bh,0,none⟩=some (.string ⟨#[104,101,97,100]⟩)/\y.cell? ⟨Bh,1,none⟩=some (.string ⟨#[]⟩)/\y.cell? ⟨Bh,2,none⟩=some (.slice none 0 0)/\y.cell? ⟨Bh,3,none⟩=some (.slice (some ⟨p7,0,none⟩) 2 2)):=fun y hy=>⟨(kH.below hy).cell 0 _ rfl,(kH.below hy).cell 1 _ rfl,(kH.below hy).cell 2 _ rfl,(kH.below hy).cell 3 _ rfl⟩
     clear b8 EC3 KD7 Y5 XH8 Y6 bH kH;go_upto_region 12 with (fail)
     rw [<- hwH,<- hBh];clear hwH hBh;refine SH 8 (fun w'=>jlj wH.heap.size wH w') (by kernel_rfl) (ji7 _ _).drew ?_;intro hH;refine kT 0 (v:=?_) rfl (by kernel_rfl) hH (by rfl) ?_ ?_;rotate_left
     ·(intro wv hSw;obtain ⟨c0,c1,c2,c3⟩:=HCH.out wv hSw;go_simp;try with_reducible rfl)
     try simp only [Act.put,ji3,ji4,ji5]
     refine kT 3 (v:=?_) rfl (by kernel_rfl) hH (by rfl) ?_ ?_;rotate_left
     ·(intro wv hSw;obtain ⟨c0,c1,c2,c3⟩:=HCH.out wv hSw;go_simp;try with_reducible rfl)
     try simp only [Act.put,ji3,ji4,ji5]
     refine kT 4 (v:=?_) rfl (by kernel_rfl) hH (by rfl) ?_ ?_;rotate_left
     ·(intro wv hSw;obtain ⟨c0,c1,c2,c3⟩:=HCH.out wv hSw;go_simp;try with_reducible rfl)
     try simp only [Act.put,ji3,ji4,ji5]
     obtain ⟨y0,hy0⟩:∃ y0,y0=wH.drew:=⟨_,rfl⟩;have YZ:jlj wH.heap.size wH y0:=by rw [hy0];exact (ji7 _ _).drew
     rw [<- hy0] at hH;rw [<- hy0];clear hy0;have LC2:Hid (Calls Tryz.prog 58 #[.slice (some ⟨y0.heap.size,0,none⟩) 2 2] (y0.alloc (.cells #[.string ⟨#[108,97,110,103]⟩,.string lang] 9)) (bO (y0.alloc (.cells #[.string ⟨#[108,97,110,103]⟩,.string lang] 9)) [⟨iM,lang⟩])):=P6 iM lang y0;refine q01 (i:=1) rfl (by kernel_rfl) (fun KQ hK=>?_);go_simp;have VK:jlj wH.heap.size wH (y0.alloc (.cells #[.string ⟨#[108,97,110,103]⟩,.string lang] 9)):=YZ.alloc YZ.size _;refine hK.out _ _ (fun _ _=>VK) (fun hH2=>?_);clear hK KQ hH;have hH:=hH2 (by decide) (by kernel_rfl);clear hH2;try simp only [Act.put,ji3,ji4,ji5]
     refine q01 (i:=2) rfl (by kernel_rfl) (fun KQ hK=>?_);go_simp;go_at_call 58
     (with_reducible refine (LC2.out).mono ?_)
     rintro e y2 ⟨bV,v2,rfl,hrow2⟩;obtain ⟨a9,c9,rfl,-,-⟩:=hrow2.cap (n:=1) rfl;have Tm:jlj wH.heap.size wH y2:=VK.trans (hrow2.aT.mono VK.size);have Y0:=hid (show Rd (W0.heap.size<=·) y2 (bX [⟨iM,lang⟩]) [.slice a9 1 c9] from hrow2.fA.weaken (fun b hb=>ji9 BH.out.size (ji9 VK.size hb)));clear hrow2 LC2;refine hK.out _ _ (fun _ _=>Tm) (fun hH2=>?_);clear hK KQ hH;have hH:=hH2 (by decide) (by kernel_rfl);clear hH2;try simp only [Act.put,ji3,ji4,ji5]
     refine q01 (i:=5) rfl (by kernel_rfl) (fun KQ hK=>?_);go_simp;go_at_call 57
     (with_reducible refine (iT ⟨#[98,111,100,121]⟩ none a3 0 n3 0 c3 y2).mono ?_)
     rintro e y3 ⟨rfl,hb⟩;have Tn:jlj wH.heap.size wH y3:=Tm.trans (hb.mono Tm.size);have PR3:=hid (Y0.out.bq hb);have KD3:=hid (I6 (ok:=(W0.heap.size<=·)) (w:=y3) (x:=(aV gJ [] [(aV gK [⟨zL,fD⟩] []),(aV dN [] (bP title))])) (y:=(aV fC [] (oh l))) (ji9 BH.out.size Tn.size) (XHH.out.bq Tn) (Nd.eD ⟨#[98,111,100,121]⟩ ⟨#[]⟩ ⟨Rd.aF _ _ _,KPH.out.bq Tn⟩));have HXK:=hid (show Rd (fun b=>W0.heap.size<=b/\b<y3.heap.size) y3 (cZ [aV gK [⟨zL,fD⟩] [],aV dN [] (bP title)]) [.slice (some ⟨p7,0,none⟩) 2 2] from (Qz (XHH.out.bq Tn)).inside);have HXA:=hid (show Rd (fun b=>W0.heap.size<=b/\b<y3.heap.size) y3 (bX [⟨iM,lang⟩]) [.slice a9 1 c9] from PR3.out.inside);clear hb Y0;refine hK.out _ _ (fun _ _=>Tn) (fun hH2=>?_);clear hK KQ hH;have hH:=hH2 (by decide) (by kernel_rfl);clear hH2;try simp only [Act.put,ji3,ji4,ji5]
     refine q01 (i:=6) rfl (by kernel_rfl) (fun KQ hK=>?_);go_simp;have bA:jlj y3.heap.size y3 (y3.alloc (.cells #[.string ⟨#[104,101,97,100]⟩,.string ⟨#[]⟩,.slice none 0 0,.slice (some ⟨p7,0,none⟩) 2 2,.string ⟨#[98,111,100,121]⟩,.string ⟨#[]⟩,.slice none 0 0,.slice a3 n3 c3] 43)):=(ji7 _ _).alloc (ji8 _) _;have B6y:jlj wH.heap.size wH (y3.alloc (.cells #[.string ⟨#[104,101,97,100]⟩,.string ⟨#[]⟩,.slice none 0 0,.slice (some ⟨p7,0,none⟩) 2 2,.string ⟨#[98,111,100,121]⟩,.string ⟨#[]⟩,.slice none 0 0,.slice a3 n3 c3] 43)):=Tn.trans (bA.mono Tn.size);have PR6:=hid (PR3.out.bq bA);have VL:=hid (HXK.out.bq bA);have VN:=hid (HXA.out.bq bA);have VO:=hid (CB.new 43 [.string ⟨#[104,101,97,100]⟩,.string ⟨#[]⟩,.slice none 0 0,.slice (some ⟨p7,0,none⟩) 2 2,.string ⟨#[98,111,100,121]⟩,.string ⟨#[]⟩,.slice none 0 0,.slice a3 n3 c3] y3);have ug:=hid Tn.size;obtain ⟨y6,hN⟩:∃ y6,y6=y3.alloc (.cells #[.string ⟨#[104,101,97,100]⟩,.string ⟨#[]⟩,.slice none 0 0,.slice (some ⟨p7,0,none⟩) 2 2,.string ⟨#[98,111,100,121]⟩,.string ⟨#[]⟩,.slice none 0 0,.slice a3 n3 c3] 43):=⟨_,rfl⟩;obtain ⟨p3,hf⟩:∃ p3,p3=y3.heap.size:=⟨_,rfl⟩;rw [<- hN,<- hf] at KD3;rw [<- hN] at PR6 B6y;have VL:Hid (Rd (fun b=>W0.heap.size<=b/\b<p3) y6 (cZ [aV gK [⟨zL,fD⟩] [],aV dN [] (bP title)]) [.slice (some ⟨p7,0,none⟩) 2 2]):=by show Rd _ _ _ _;rw [hf,hN];exact VL.out
     have VN:Hid (Rd (fun b=>W0.heap.size<=b/\b<p3) y6 (bX [⟨iM,lang⟩]) [.slice a9 1 c9]):=by show Rd _ _ _ _;rw [hf,hN];exact VN.out
     have VO:Hid (CB 43 p3 [.string ⟨#[104,101,97,100]⟩,.string ⟨#[]⟩,.slice none 0 0,.slice (some ⟨p7,0,none⟩) 2 2,.string ⟨#[98,111,100,121]⟩,.string ⟨#[]⟩,.slice none 0 0,.slice a3 n3 c3] y6):=by show CB _ _ _ _;rw [hf,hN];exact VO.out
     have ug:Hid (wH.heap.size<=p3):=by show _<=_;rw [hf];exact ug.out
     rw [<- hN,<- hf];clear hN hf bA PR3;refine hK.out _ _ (fun _ _=>B6y) (fun hH2=>?_);clear hK KQ hH;have hH:=hH2 (by decide) (by kernel_rfl);clear hH2;try simp only [Act.put,ji3,ji4,ji5]
     refine q01 (i:=7) rfl (by kernel_rfl) (fun KQ hK=>?_);go_simp;go_at_call 57
     (with_reducible refine (iT ⟨#[104,116,109,108]⟩ a9 (some ⟨p3,0,none⟩) 1 2 c9 2 y6).mono ?_)
     rintro e y7 ⟨rfl,hb⟩;have B7y:jlj wH.heap.size wH y7:=B6y.trans (hb.mono B6y.size);have HN:=hid (show jT (W0.heap.size<=·) y7 [⟨iM,lang⟩] [(aV gJ [] [(aV gK [⟨zL,fD⟩] []),(aV dN [] (bP title))]),(aV fC [] (oh l))] (.slice a9 1 c9) (.slice (some ⟨p3,0,none⟩) 2 2) from ⟨PR6.out.bq hb,KD3.out.bq hb⟩);have BL:=hid (aZ BH.out B7y);have jc8:=hid (VL.out.bq hb);have jc9:=hid (VN.out.bq hb);have jcj:=hid (VO.out.below hb);clear hb PR6 KD3;refine hK.out _ _ (fun _ _=>B7y) (fun hH2=>?_);clear hK KQ hH;have hH:=hH2 (by decide) (by kernel_rfl);clear hH2;try simp only [Act.put,ji3,ji4,ji5]
     refine q01 (i:=8) rfl (by kernel_rfl) (fun KQ hK=>?_);obtain ⟨x0,x1,x2,x3,xf⟩:=mZ (K1.out.below BL.out);go_simp;clear x0 x1 x2 x3 xf;refine hK.out _ _ (fun h=>absurd rfl h) (fun _=>?_);clear hK KQ hH;try simp only [Act.put,ji3,ji4,ji5]
     refine q01 (i:=9) rfl (by kernel_rfl) (fun KQ hK=>?_);go_simp;refine hK.out _ _ (fun _ h=>absurd h (by decide)) (fun _=>?_);clear hK KQ;try simp only [Act.put,ji3,ji4,ji5]
     refine Ba (by kernel_rfl) ?_ _;obtain ⟨w9,bT⟩:∃ w9,w9=four y7 (S+1) (.string ⟨#[104,116,109,108]⟩) (.string ⟨#[]⟩) (.slice a9 1 c9) (.slice (some ⟨p3,0,none⟩) 2 2):=⟨_,rfl⟩;have HX9:Hid (PgX w w9 title [⟨iM,lang⟩] (.slice a9 1 c9) (.slice (some ⟨p3,0,none⟩) 2 2)):=by
      have e1:=Z0.out;have e2:=BH.out.size;have e4:=ug.out;have e5:=Cy.out;refine ⟨p3,.slice (some ⟨p7,0,none⟩) 2 2,.slice a3 n3 c3,rfl,by omega,?_,?_,?_⟩
      ·rw [bT];exact (gU _ _ _ _ _ _ p3 (by omega)).trans jcj.out
      ·rw [bT];exact Rd.keep (fun b (hb:W0.heap.size<=b/\b<p3) _=>⟨⟨by omega,hb.2⟩,gU _ _ _ _ _ _ b (by omega)⟩) _ _ jc8.out
      ·rw [bT];exact Rd.keep (fun b (hb:W0.heap.size<=b/\b<p3) _=>⟨⟨by omega,hb.2⟩,gU _ _ _ _ _ _ b (by omega)⟩) _ _ jc9.out
     have hf:=fB ⟨#[104,116,109,108]⟩ ⟨#[]⟩ [⟨iM,lang⟩] [(aV gJ [] [(aV gK [⟨zL,fD⟩] []),(aV dN [] (bP title))]),(aV fC [] (oh l))] Cy.out Z0.out B0.out K1.out BL.out HN.out;rw [<- bT] at hf;have iU:=hid hf.1;have Bc:=hid hf.2;clear hf;have hw8:=bT;simp only [four] at hw8;clear bT;rw [<- hw8];clear hw8;go_wp2;have r0:=iU.out.cell 0 _ rfl;have r1:=iU.out.cell 1 _ rfl;have r2:=iU.out.cell 2 _ rfl;have r3:=iU.out.cell 3 _ rfl;exact bodyPost_ret (v:=.tuple #[.agg #[.string ⟨#[104,116,109,108]⟩,.string ⟨#[]⟩,.slice a9 1 c9,.slice (some ⟨p3,0,none⟩) 2 2],.int .i64 (0)]) (by simp [results,Tryz.results22,go_sem,r0,r1,r2,r3]) rfl (by rw [HPF.out,H0.out];exact jN.of Bc.out (by simp) (fun _ va vk e=>by
      simp only [Value.agg.injEq,Array.mk.injEq,List.cons.injEq,and_true] at e;obtain ⟨-,-,rfl,rfl⟩:=e;exact HX9.out))
    ·have q2:((EB:Int) != 0)=true:=by rw [bne_iff_ne];omega
     have VI:=hid (show IY me l title lang=mK by rw [Y1.out,if_neg (by rw [HEB.out];exact hB0)]);obtain ⟨x0,x1,x2,x3,xf⟩:=mZ (K1.out.below B3.out);obtain ⟨w9,bT⟩:∃ w9,w9=four w3 (S+1) (.string ⟨#[]⟩) (.string ⟨#[]⟩) (.slice none 0 0) (.slice none 0 0):=⟨_,rfl⟩;have hf:=fB ⟨#[]⟩ ⟨#[]⟩ [] [] Cy.out Z0.out B0.out K1.out B3.out ⟨Rd.aF _ _ _,Rd.aF _ _ _⟩;rw [<- bT] at hf;have iU:=hid hf.1;have Bc:=hid hf.2;clear hf;have hw8:=bT;simp only [four] at hw8;clear bT;go_wp2;rw [<- hw8];have r0:=iU.out.cell 0 _ rfl;have r1:=iU.out.cell 1 _ rfl;have r2:=iU.out.cell 2 _ rfl;have r3:=iU.out.cell 3 _ rfl;exact bodyPost_ret (v:=.tuple #[.agg #[.string ⟨#[]⟩,.string ⟨#[]⟩,.slice none 0 0,.slice none 0 0],.int .i64 (EB)]) (by simp [results,Tryz.results22,go_sem,r0,r1,r2,r3]) rfl (by rw [VI.out,HEB.out];exact jN.of Bc.out (by simp) (fun h=>absurd h hB0))
 ·have q1:((E0:Int) != 0)=true:=by rw [bne_iff_ne];omega
  have HE9:=hid (show EE=E0 by rw [Xo.out,if_pos h0]);have VI:=hid (show IY me l title lang=mK by rw [Y1.out,if_neg (by rw [HE9.out];exact h0)]);obtain ⟨x0,x1,x2,x3,xf⟩:=mZ (K1.out.below B1.out);obtain ⟨w9,bT⟩:∃ w9,w9=four w1 (S+1) (.string ⟨#[]⟩) (.string ⟨#[]⟩) (.slice none 0 0) (.slice none 0 0):=⟨_,rfl⟩;have hf:=fB ⟨#[]⟩ ⟨#[]⟩ [] [] Cy.out Z0.out B0.out K1.out B1.out ⟨Rd.aF _ _ _,Rd.aF _ _ _⟩;rw [<- bT] at hf;have iU:=hid hf.1;have Bc:=hid hf.2;clear hf;have hw8:=bT;simp only [four] at hw8;clear bT;go_wp2;rw [<- hw8];have r0:=iU.out.cell 0 _ rfl;have r1:=iU.out.cell 1 _ rfl;have r2:=iU.out.cell 2 _ rfl;have r3:=iU.out.cell 3 _ rfl;exact bodyPost_ret (v:=.tuple #[.agg #[.string ⟨#[]⟩,.string ⟨#[]⟩,.slice none 0 0,.slice none 0 0],.int .i64 (E0)]) (by simp [results,Tryz.results22,go_sem,r0,r1,r2,r3]) rfl (by rw [VI.out,HE9.out];exact jN.of Bc.out (by simp) (fun h=>absurd h h0))
theorem J8 (me:List Pr) (l:List ah) (title lang:ByteArray) (vm vb:Value) (w:jl9) (hm:Rd (·<w.heap.size) w (bX me) [vm]) (hb:Rd (·<w.heap.size) w (jg l) [vb]) (hme:me.length<=1000) (jG:∀ p∈me,p.key.size<=1000/\p.val.size<=1000) (hall:ah.bY l<=32768) (hsm:ah.aD l) (hsz:ah.aY l<=900000) (hil:(ah.aQ l).length<=1000) (hbd:ah.kK l) (hti:title.size<=300) (hla:lang.size<=300) (ht:PT w) : Calls Tryz.prog 22 #[.agg #[vm,vb],.string title,.string lang] w (qP w (Eb me l title lang) (IY me l title lang)):=
 (vZ me l title lang vm vb w hm hb hme jG hall hsm hsz hil hbd hti hla ht).mono fun e w' ⟨va,vk,h1,h2,h3,_⟩=>⟨va,vk,h1,h2,h3⟩
theorem eY (key:ByteArray):Nd.aH key []=[]:=by rw [Nd.aH]
theorem sK (key n:ByteArray) (a:List Pr) (ks:List Nd):((aV n a ks).vals key).length<=a.length+(Nd.aH key ks).length:=by
 unfold aV;rw [Nd.vals];split
 ·simp
 ·rw [jiq,jix];have:=List.length_filter_le (fun p:Pr=>decide (p.key=key)) a;omega
theorem Br (key:ByteArray) (x:Nd) (h:bI x.nm=true):x.vals key=[]:=by obtain ⟨n,t,a,k⟩:=x;have h':bI n=true:=h;rw [Nd.vals,if_pos h']
theorem Tp (key s:ByteArray):(JU s).vals key=[]:=Br key _ rfl
theorem pW (key s:ByteArray):Nd.aH key (bP s)=[]:=by
 unfold bP;split
 ·rw [Nd.aH]
 ·rw [qA,Tp]
theorem QA (key:ByteArray) (out:List Nd) (x:Nd):Nd.aH key (pX out x)=Nd.aH key out++x.vals key:=by
 unfold pX;split
 ·rename_i h
  have hx:=Br key x h;rw [hx,jl6];cases hg:out.getLast? with
  | none=>
   simp only;rw [J4,qA,hx,jl6]
  | some y=>
   simp only;split
   ·rename_i hy
    have e:=Gg hg
    conv=>rhs;rw [e]
    rw [J4,J4,qA,qA,Br key y hy,Br key (.mk y.nm (y.tx++x.tx) y.at_ y.ks) hy]
   ·rw [J4,qA,hx,jl6]
 ·rw [J4,qA]
theorem I7 (key:ByteArray):∀ (l out:List Nd),Nd.aH key (l.foldl pX out)=Nd.aH key out++Nd.aH key l
 | [],out=>by rw [eY,jl6];rfl
 | x::l,out=>by rw [List.foldl_cons,I7 key l,QA,Nd.aH,List.append_assoc]
theorem zM (key:ByteArray) (l:List Nd):Nd.aH key (iq l)=Nd.aH key l:=by unfold iq;rw [I7,eY,List.nil_append]
theorem pY (k v:ByteArray):(iZ k v).length<=1:=by unfold iZ;split<;>simp
theorem qc (a:At) (more:List ByteArray):(q0z a more).length<=2:=by unfold q0z Mq;have:=pY dR a.id;rw [jiq];split<;>simp<;>omega
mutual
theorem aj.va (key:ByteArray):∀ x:aj,(x.nd.vals key).length<=5*x.sz
 | .mk k t d ti a ar ci ks=>by
  have h:=aj.vaR key ks;have hj:(Nd.aH key (iq (aj.Cv ks))).length<=5*aj.aY ks:=by rw [zM];exact h
  have b1:=pY dH ti;have b2:=qc a [];have b0:(Nd.aH key []).length=0:=by rw [eY];rfl
  rw [aj.nd,aj.sz];have I:∀ (c:Prop) [Decidable c] (a b:Nd),(a.vals key).length<=5*(1+aj.aY ks)->(b.vals key).length<=5*(1+aj.aY ks)->((if c then a else b).vals key).length<=5*(1+aj.aY ks):=fun c _ a b h1 h2=>by
   by_cases hc:c
   ·rw [if_pos hc];exact h1
   ·rw [if_neg hc];exact h2
  repeat' (with_reducible refine I _ _ _ ?_ ?_)
  all_goals first
   | (rw [Tp];exact jj3 _)
   | (refine ji9 (sK _ _ _ _) ?_;(try simp only [List.cons_append,jiz,List.length_nil,jiq,pW]);omega)
theorem aj.vaR (key:ByteArray):∀ l:List aj,(Nd.aH key (aj.Cv l)).length<=5*aj.aY l
 | []=>by rw [aj.Cv,eY];exact jj3 _
 | x::l=>by
  have h1:=aj.va key x;have h2:=aj.vaR key l;rw [aj.Cv,Nd.aH,aj.aY,jiq];omega
end
theorem MW (key:ByteArray) (l:List aj):(Nd.aH key (jC l)).length<=5*aj.aY l:=by unfold jC;rw [zM];exact aj.vaR key l
theorem Ef (key name:ByteArray):∀ (cs:List UInt8) (l:List ah),(Nd.aH key (bg name cs l)).length<=5*((ah.aO l).length+(ah.aQ l).length)
 | [],l=>by rw [bg.eq_def,eY];exact jj3 _
 | c::cs,[]=>by rw [bg.eq_def,eY];exact jj3 _
 | c::cs,b::l=>by
  have h:=Ef key name cs l;obtain ⟨k,lv,i,t,d,ti,a,li,ks⟩:=b;have h1:((Mx name c (ah.mk k lv i t d ti a li ks)).vals key).length<=1+5*aj.aY li:=by have g1:=sK key name (iZ vJ (eF c)) (jC li);have g2:=pY vJ (eF c);have g3:=MW key li;exact ji9 g1 (by omega)
  rw [bg,Nd.aH,ah.aO,ah.aQ,ah.each,ah.inls,jiq,jiq,jiq,jiq,jiz,aj.fE];omega
theorem MX (key name i:ByteArray) (b:ah):((jV name i b).vals key).length<=5*(b.each.length+b.inls.length):=by obtain ⟨k,lv,i',t,d,ti,a,li,ks⟩:=b;have h1:=sK key qM [] (bg name i.data.toList ks);have h2:=Ef key name i.data.toList ks;have h3:((jV name i (ah.mk k lv i' t d ti a li ks)).vals key).length<=5*((ah.aO ks).length+(ah.aQ ks).length):=ji9 h1 (by simpa using h2);rw [ah.each,ah.inls,jiq,jiz];omega
theorem I8 (key name i:ByteArray):∀ (l:List ah),(Nd.aH key (l.map (jV name i))).length<=5*((ah.aO l).length+(ah.aQ l).length)
 | []=>by rw [List.map_nil,eY];exact jj3 _
 | b::l=>by
  have h1:=MX key name i b;have h2:=I8 key name i l;rw [List.map_cons,Nd.aH,ah.aO,ah.aQ,jiq,jiq,jiq];omega
theorem MZ (key i:ByteArray) (l:List ah):((dI i l).vals key).length<=5*((ah.aO l).length+(ah.aQ l).length):=by
 cases l with
 | nil=>
  unfold dI;refine ji9 (sK _ _ _ _) ?_;have h0:((aV eZ [] []).vals key).length=0:=by have:=sK key eZ [] [];rw [eY] at this;simpa using this
  rw [qA,h0];exact jj3 _
 | cons h rows=>
  unfold dI;refine ji9 (sK _ _ _ _) ?_;have g1:=MX key Gh i h;have g2:=I8 key yK i rows;have g3:=sK key eZ [] [jV Gh i h];rw [qA] at g3;rw [Nd.aH,ah.aO,ah.aQ,jiq,jiq,jiq];have g4:(Nd.aH key (if rows.isEmpty=true then [] else [aV oL [] (rows.map (jV yK i))])).length<=(Nd.aH key (rows.map (jV yK i))).length:=by
   split
   ·rw [eY];exact jj3 _
   ·rw [qA];have:=sK key oL [] (rows.map (jV yK i));simpa using this
  simp only [List.length_nil] at g3 ⊢;omega
mutual
theorem ah.va (key:ByteArray):∀ b:ah,(Nd.aH key b.tH).length<=5*(b.each.length+b.inls.length)
 | .mk k lv i t d ti a li ks=>by
  have h:=ah.vaL key ks;have hl:=MW key li;have ht:=MZ key i ks;have b1:=pY fJ (if bI i=true then ⟨#[]⟩ else uZ++i);have b2:=qc a [];have b3:=qc a [vP];have b4:=qc a [i];have b5:=sK key iD (iZ fJ (if bI i=true then ⟨#[]⟩ else uZ++i)) (bP t);rw [pW,List.length_nil] at b5;have b6:(if lv=1 then [] else [(⟨sStart,fQ lv.toNat⟩:Pr)]).length<=1:=by split<;>simp
  have b0:(Nd.aH key []).length=0:=by rw [eY];rfl
  rw [ah.tH,ah.each,ah.inls,jiz,jiq,aj.fE];generalize hM:5*((ah.aO ks).length+1+(aj.aY li+(ah.aQ ks).length))=M;have I:∀ (c:Prop) [Decidable c] (a b:List Nd),(Nd.aH key a).length<=M->(Nd.aH key b).length<=M->(Nd.aH key (if c then a else b)).length<=M:=fun c _ a b h1 h2=>by
   by_cases hc:c
   ·rw [if_pos hc];exact h1
   ·rw [if_neg hc];exact h2
  refine I _ _ _ ?_ (I _ _ _ ?_ (I _ _ _ ?_ (I _ _ _ ?_ (I _ _ _ ?_ (I _ _ _ ?_ (I _ _ _ ?_ (I _ _ _ ?_ (I _ _ _ ?_ (I _ _ _ ?_ (I _ _ _ ?_ ?_))))))))))
  ·rw [qA];refine ji9 (sK _ _ _ _) ?_;simp only [List.length_nil];omega
  ·rw [qA];refine ji9 (sK _ _ _ _) ?_;omega
  ·rw [qA];refine ji9 (sK _ _ _ _) ?_;rw [qA];simp only [List.length_nil];omega
  ·rw [qA];refine ji9 (sK _ _ _ _) ?_;rw [pW];simp only [List.length_nil];omega
  ·rw [qA];refine ji9 (sK _ _ _ _) ?_;simp only [List.length_nil];omega
  ·rw [qA];refine ji9 (sK _ _ _ _) ?_;simp only [List.length_nil];omega
  ·rw [qA];refine ji9 (sK _ _ _ _) ?_;simp only [List.length_nil];omega
  ·rw [qA];refine ji9 (sK _ _ _ _) ?_;omega
  ·rw [qA];refine ji9 (sK _ _ _ _) ?_;simp only [List.length_nil];omega
  ·rw [qA];omega
  ·rw [qA];refine ji9 (sK _ _ _ _) ?_;omega
  ·omega
theorem ah.vaL (key:ByteArray):∀ l:List ah,(Nd.aH key (ah.aW l)).length<=5*((ah.aO l).length+(ah.aQ l).length)
 | []=>by rw [ah.aW,eY];exact jj3 _
 | b::l=>by
  have h1:=ah.va key b;have h2:=ah.vaL key l;rw [ah.aW,J4,ah.aO,ah.aQ,jiq,jiq,jiq];omega
end
mutual
theorem ah.ei:∀ b:ah,∀ x∈b.each,(ah.aO x.kids).length<=b.each.length/\(ah.aQ x.kids).length<=b.inls.length
 | .mk k lv i t d ti a li ks,x,hx=>by
  rw [ah.each] at hx ⊢;rw [ah.inls,jiz,jiq];rcases List.mem_cons.1 hx with rfl | hx
  ·exact ⟨by show (ah.aO ks).length<=_;omega,by show (ah.aQ ks).length<=_;omega⟩
  ·have:=ah.eiL ks x hx;omega
theorem ah.eiL:∀ l:List ah,∀ x∈ah.aO l,(ah.aO x.kids).length<=(ah.aO l).length/\(ah.aQ x.kids).length<=(ah.aQ l).length
 | [],x,hx=>by rw [ah.aO] at hx;cases hx
 | b::l,x,hx=>by
  rw [ah.aO] at hx ⊢;rw [ah.aQ,jiq,jiq];rcases List.mem_append.1 hx with hx | hx
  ·have:=ah.ei b x hx;omega
  ·have:=ah.eiL l x hx;omega
end
theorem Eh (key:ByteArray) (N:Nat):∀ (m:List ah),(∀ x∈m,(Nd.aH key (ah.aW x.kids)).length<=N)->(Nd.aH key (m.flatMap gI)).length<=m.length*(2+N)
 | [],_=>by rw [List.flatMap_nil,eY];exact jj3 _
 | x::m,h=>by
  have h1:=Eh key N m (fun y hy=>h y (List.mem_cons_of_mem _ hy));have h2:=h x (List.mem_cons_self ..);have h3:(Nd.aH key (gI x)).length<=2+N:=by
   obtain ⟨k,lv,i,t,d,ti,a,li,ks⟩:=x;have h2':(Nd.aH key (ah.aW ks)).length<=N:=h2;show (Nd.aH key (if k=14 then [aV oH [⟨dR,Bn++i⟩,⟨fJ,fT⟩] (ah.aW ks)] else [])).length<=2+N;by_cases hk:k=14
   ·rw [if_pos hk,qA];refine ji9 (sK _ _ _ _) ?_;simp only [jiz,List.length_nil];omega
   ·rw [if_neg hk,eY];exact jj3 _
  rw [List.flatMap_cons,J4,jiq,jiz,Nat.succ_mul];omega
theorem M4 (key title lang:ByteArray) (l:List ah) (he:(ah.aO l).length<=120) (hi:(ah.aQ l).length<=120):((tY title lang (oh l)).vals key).length<=1000000:=by
 have h1:=ah.vaL key l;have h2:=Eh key 1200 (ah.aO l) (fun x hx=>by
  have g1:=ah.vaL key x.kids;have g2:=ah.eiL l x hx;omega)
 have h2':(Nd.aH key (yJ l)).length<=120*1202:=ji9 h2 (Nat.mul_le_mul_right _ he);have h3:(Nd.aH key (oh l)).length<=1200+1+144240:=by
  unfold oh;rw [J4,jiq];have:(Nd.aH key (if (yJ l).isEmpty=true then [] else [aV dM [⟨fJ,mM⟩] (yJ l)])).length<=1+(Nd.aH key (yJ l)).length:=by
   split
   ·rw [eY];exact jj3 _
   ·rw [qA];exact sK _ _ _ _
  omega
 unfold tY;refine ji9 (sK _ _ _ _) ?_;rw [Nd.aH,qA,jiq];have g1:=sK key gJ [] [aV gK [⟨zL,fD⟩] [],aV dN [] (bP title)];have g2:=sK key gK [⟨zL,fD⟩] [];have g3:=sK key dN [] (bP title);have g4:=sK key fC [] (oh l);rw [Nd.aH,qA,jiq] at g1;rw [pW] at g3;rw [eY] at g2;simp only [jiz,List.length_nil] at g1 g2 g3 g4 ⊢;omega
def lS (x:ByteArray) (l:List ByteArray):Nat:=l.countP (fun y=>decide (y=x))
theorem M6 (a b:List ByteArray) (h:∀ x,lS x a=lS x b):a.length=b.length:=by
 have e:∀ (x:ByteArray) (l:List ByteArray),@List.count ByteArray instBEqOfDecidableEq x l=lS x l:=fun x l=>rfl
 exact ((@List.perm_iff_count ByteArray instBEqOfDecidableEq inferInstance a b).2 fun x=>by rw [e,e,h x]).length_eq
theorem J9 (l:List ByteArray) (k:Nat) (x y:ByteArray) (h:l[k]?=some y):lS x (l.take (k+1))=lS x (l.take k)+if y=x then 1 else 0:=by unfold lS;rw [List.take_add_one,h,List.countP_append];simp only [Option.toList,List.countP_cons,List.countP_nil,Nat.zero_add,decide_eq_true_eq]
theorem QB (l:List ByteArray) (x:ByteArray):lS x l<=l.length:=List.countP_le_length
theorem VP (me:List Pr) (l:List ah) (title lang x:ByteArray) (h:Eb me l title lang=0) : lS x ((tY title lang (Gi l)).vals dR)=lS x ((tY title lang (oh l)).vals dR):=by unfold lS;rw [zO,zO];exact Gj x l (Ka _ l (Gb (Ec h).1))
open Go.RowKit
open Go.RowKit
open Go.RowKit
open Go.RowKit
open Go.RowKit
open Go.RowKit
structure SmB (l:List ah):Prop where
 sm:ah.aD l
 sz:ah.aY l<=120
 il:(ah.aQ l).length<=120
 al:ah.bY l<=120
theorem VQ {me:List Pr} {l:List ah} (h:M7 me l):SmB l:=by have h1:=ah.Bt l;have h2:=h.all;exact ⟨h.blks,by omega,by omega,h2⟩
theorem QC (me:List Pr) (l:List ah) (vm vb:Value) (w:jl9) (hm:Rd (·<w.heap.size) w (bX me) [vm]) (hb:Rd (·<w.heap.size) w (jg l) [vb]) (VT:∀ p∈me,p.wf) (hwl:ah.sM l) : Calls Tryz.prog 15 #[.agg #[vm,vb]] w fun e w'=>∃ b,e=.returned (.bool b)/\(b=true->M7 me l/\SmB l)/\jlj w.heap.size w w':=
 (Kc me l vm vb w hm hb VT hwl).mono fun e w' ⟨b,h1,h2,h3⟩=>⟨b,h1,fun h=>⟨h2 h,VQ (h2 h)⟩,h3⟩
end Go.Proofs.YtclikfjalmcoaaaGreatDoor

