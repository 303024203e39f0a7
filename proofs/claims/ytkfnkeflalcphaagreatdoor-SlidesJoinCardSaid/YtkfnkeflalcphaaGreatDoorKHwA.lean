/- Contracts of html.Line and publisherref34.Line. Plain part: the errors and the nodes of Blocks and Page; the small case of layer 34. What the statements of layer 34 share: text, same, has; Small at a document with one block that has a line only. Plain part: the notes of a well-formed document: what the walks ask of their blocks. Contract of html.Blocks: the nodes of blocks, with their notes behind them, or the error. Contract of html.Page: the page of a document, or the error. The small case with which each statement of layer 34 ends: it answers true. -/
import Derived.Test.YtkfnkeflalcphaaGreatDoorKRpF
import Derived.Test.YtkfnkeflalcphaaGreatDoorKHtY
set_option maxHeartbeats 8000000
set_option maxRecDepth 100000
open Go.Lib (hid)
namespace Go.Proofs.YtkfnkeflalcphaaGreatDoor
open List renaming setIfInBounds_toArray->jlk,set_cons_zero->jlq,set_cons_succ->jlx,length_map->jm6
open Go.RowKit.Below renaming refl->jm0
open Nat renaming le_refl->jm1,le_trans->jm2
open Go.World renaming size_alloc->jmx
open Go renaming World->jp3
open Go.RowKit renaming Below->jp4
open Go.RowKit
set_option linter.unusedVariables false
set_option linter.unusedSimpArgs false
def gX (w:jp3) (E:Nat) (L:List Nd) (e:Ending) (w':jp3):Prop:=
 ∃ rows v,e=.returned (.tuple #[v,.int .i64 (E:Int)])/\ay 35 4 (fun _=>False) w'.heap.size w (L.map Nd.d) rows v w'
theorem gX.nil {w w':jp3} {E:Nat} {L:List Nd} (hL:L=[]) (h:jp4 w.heap.size w w'):gX w E L (.returned (.tuple #[.slice none 0 0,.int .i64 (E:Int)])) w':=by subst hL;exact ⟨[],_,rfl,((ay.nil _ _ _ w).below h).top⟩
def zP (l:List ah):Nat:=if ah.aT qp 0 0 l≠0 then ah.aT qp 0 0 l else if (ah.aU l).any iU=true then 5 else 0
def TY (l:List ah):List Nd:=if zP l=0 then eP l else []
def KJ (me:List Pr) (l:List ah) (title lang:ByteArray):Nat:=
 if iO qp me l≠0 then iO qp me l else if iK title=false then 17 else if jG lang=false then 6 else if (ah.aU l).any iU=true then 5 else 0
def mV:Nd:=.mk ⟨#[]⟩ ⟨#[]⟩ [] []
def T9 (me:List Pr) (l:List ah) (title lang:ByteArray):Nd:=if KJ me l title lang=0 then fq title lang (eP l) else mV
theorem Nw {me:List Pr} {l:List ah} (h:iO qp me l=0):ah.aT qp 0 0 l=0:=by
 unfold iO at h;split at h
 ·cases h
 ·split at h
  ·rename_i h1;exact absurd h h1
  ·exact h
theorem wu {l:List ah} (h:zP l=0):ah.aT qp 0 0 l=0/\(ah.aU l).any iU=false:=by
 unfold zP at h;split at h
 ·rename_i h1;exact absurd h h1
 ·rename_i h1
  split at h
  ·cases h
  ·rename_i h2
   exact ⟨Classical.not_not.1 h1,by simpa using h2⟩
theorem Ny {me:List Pr} {l:List ah} {title lang:ByteArray} (h:KJ me l title lang=0):iO qp me l=0/\iK title=true/\jG lang=true/\(ah.aU l).any iU=false:=by
 unfold KJ at h;split at h
 ·rename_i h1;exact absurd h h1
 ·rename_i h1
  split at h
  ·cases h
  ·rename_i h2
   split at h
   ·cases h
   ·rename_i h3
    split at h
    ·cases h
    ·rename_i h4
     exact ⟨Classical.not_not.1 h1,by simpa using h2,by simpa using h3,by simpa using h4⟩
theorem Wo {me:List Pr} {l:List ah} {title lang:ByteArray} (h:KJ me l title lang=0):zP l=0:=by obtain ⟨h1,-,-,h4⟩:=Ny h;unfold zP;rw [if_neg (by rw [Nw h1];simp),h4];rfl
theorem KM (s:ByteArray):(((At.err ⟨⟨#[]⟩,[],[⟨⟨#[116,105,116,108,101]⟩,s⟩]⟩:Nat):Int)==0)=iK s:=by
 have h1:jG (⟨#[116,105,116,108,101]⟩:ByteArray)=true:=by decide +kernel
 have h2:dL [] [⟨⟨#[116,105,116,108,101]⟩,s⟩]=if iK s=false then 17 else 0:=by
  rw [dL,h1];have h0:hasB [] (⟨#[116,105,116,108,101]⟩:ByteArray)=false:=rfl;rw [if_neg (by decide),h0];split
  ·rfl
  ·rfl
 cases hs:iK s with
 | true=>
  rw [hs] at h2;have h3:At.err ⟨⟨#[]⟩,[],[⟨⟨#[116,105,116,108,101]⟩,s⟩]⟩=0:=by unfold At.err;rw [h2];rfl
  rw [h3];rfl
 | false=>
  rw [hs] at h2;have h3:At.err ⟨⟨#[]⟩,[],[⟨⟨#[116,105,116,108,101]⟩,s⟩]⟩=17:=by unfold At.err;rw [h2];rfl
  rw [h3];rfl
theorem Rj {l:List ah} (h:zP l=0):ah.sM l:=by obtain ⟨h1,h2⟩:=wu h;exact ah.nO qp l 0 0 (by decide) (by decide) h1 (by rw [ah.jg];exact h2)
def eAt:At:=⟨⟨#[]⟩,[],[]⟩
def Nz (t:ByteArray):aj:=.mk 1 t ⟨#[]⟩ ⟨#[]⟩ eAt [] [] []
theorem ZF:KJ [] [] ⟨#[84]⟩ ⟨#[101,110]⟩=0:=by decide +kernel
open Go.RowKit
def eC (t:ByteArray):List Value:=[.int .i64 1,.string t,.string ⟨#[]⟩,.string ⟨#[]⟩,.string ⟨#[]⟩,.slice none 0 0,.slice none 0 0,.slice none 0 0,.slice none 0 0,.slice none 0 0]
theorem Rd.Ua {ok:Nat->Prop} {w:jp3} {k:Nat} {l:List D} {rows:List (List Value)} {b cap:Nat} (hl:l.length<=cap) (hm:cap<=maxLen) (h:aH ok w l rows) (hk:∀ r∈rows,r.length=k) (hok:ok b) (hb:b<w.heap.size) (hc:∀ j u,rows.flatten[j]?=some u->w.cell? ⟨b,j,none⟩=some u):Rd ok w (.sl k l) [.slice (some ⟨b,0,none⟩) l.length cap]:=by unfold Rd;exact ⟨_,cap,rows,rfl,hl,hm,h,hk,.inr ⟨b,0,rfl,hok,hb,fun j u hu=>by rw [Nat.zero_add];exact hc j u hu⟩⟩
theorem Wp (ok:Nat->Prop) (w:jp3):AtR ok w eAt (.slice none 0 0) (.slice none 0 0):=⟨Rd.aD _ _ _,Rd.aD _ _ _⟩
theorem Wq (ok:Nat->Prop) (w:jp3) (t:ByteArray):Rd ok w (Nz t).d (eC t):=aj.eH 1 t ⟨#[]⟩ ⟨#[]⟩ ⟨Wp _ _,Rd.aD _ _ _,Rd.aD _ _ _,Rd.aD _ _ _⟩
mutual
theorem ah.Rk (cl:ByteArray->Bool):∀ (b:ah) (par:Int) (dp:Nat),b.err cl par dp=0->b.aX.any iU=false->∀ x∈b.each,(∃ d',ah.aT cl x.Gw d' x.kids=0)/\(ah.dA x.kids).any iU=false/\ah.aR x.kids<=b.sz
 | .mk k lv i t d ti a li ks,par,dp,h,hu,x,hx=>by
  obtain ⟨h2,hbf,h3⟩:=kS cl h;rw [ah.aX,List.any_append,Bool.or_eq_false_iff] at hu;rw [ah.each] at hx;rw [ah.sz];rcases List.mem_cons.1 hx with rfl | hx
  ·exact ⟨⟨dp+1,h3⟩,hu.2,by show ah.aR ks<=_;omega⟩
  ·obtain ⟨g1,g2,g3⟩:=ah.wF cl ks k (dp+1) h3 hu.2 x hx;exact ⟨g1,g2,by omega⟩
theorem ah.wF (cl:ByteArray->Bool):∀ (l:List ah) (par:Int) (dp:Nat),ah.aT cl par dp l=0->(ah.dA l).any iU=false->∀ x∈ah.aV l,(∃ d',ah.aT cl x.Gw d' x.kids=0)/\(ah.dA x.kids).any iU=false/\ah.aR x.kids<=ah.aR l
 | [],_,_,_,_,x,hx=>by rw [ah.aV] at hx;cases hx
 | y::l,par,dp,h,hu,x,hx=>by
  rw [ah.aT] at h;rw [ah.dA,List.any_append,Bool.or_eq_false_iff] at hu;rw [ah.aV] at hx;rw [ah.aR];by_cases h1:y.err cl par dp≠0
  ·rw [if_pos h1] at h;exact absurd h h1
  ·rw [if_neg h1] at h;rcases List.mem_append.1 hx with hx | hx
   ·obtain ⟨g1,g2,g3⟩:=ah.Rk cl y par dp (Classical.not_not.1 h1) hu.1 x hx;exact ⟨g1,g2,by omega⟩
   ·obtain ⟨g1,g2,g3⟩:=ah.wF cl l par dp h hu.2 x hx;exact ⟨g1,g2,by omega⟩
end
theorem NA (l:List ah) (h:zP l=0) (hsm:ah.aF l) (hz:ah.aR l<=900000):ah.kR l/\∀ x∈ah.aV l,x.Gw=14->ah.kR x.kids/\ah.aR x.kids<=900000:=by obtain ⟨h1,h2⟩:=wu h;have h3:=Rj h;refine ⟨ah.qd qp l 0 0 h1 h3 hsm hz,fun x hx hk=>?_⟩;obtain ⟨⟨d',g1⟩,g2,g3⟩:=ah.wF qp l 0 0 h1 (by rw [ah.jg];exact h2) x hx;rw [hk] at g1;have g4:=(oP (ah.jR l hsm x hx)).1;have g5:=ah.nO qp x.kids 14 d' (by decide) (by decide) g1 g2;exact ⟨ah.qd qp _ 14 d' g1 g5 g4 (by omega),by omega⟩
mutual
theorem ND:∀ (b:ah),b.each.length=b.sz
 | .mk k lv i t d ti a li ks=>by rw [ah.each,ah.sz,List.length_cons,rH ks];omega
theorem rH:∀ (l:List ah),(ah.aV l).length=ah.aR l
 | []=>by rw [ah.aV,ah.aR];rfl
 | x::l=>by rw [ah.aV,ah.aR,List.length_append,ND x,rH l]
end
theorem Gx {x:ah} (h:x.small):x.iOf.size<=300:=by obtain ⟨k,lv,i,t,d,ti,a,li,ks⟩:=x;rw [ah.small] at h;exact h.1
theorem o8:∀ (l:List ah),(l.flatMap iW).length<=l.length
 | []=>by simp
 | x::l=>by
  have h:=o8 l;rw [List.flatMap_cons,List.length_append,List.length_cons];have h2:(iW x).length<=1:=by obtain ⟨k,lv,i,t,d,ti,a,li,ks⟩:=x;unfold iW;dsimp only;split<;>simp
  omega
open Go.RowKit Go.Shelf
attribute [local go_sem] Oper.semAt_some
theorem tT.ok {S Bb N0:Nat} (h1:S<=Bb) (h2:Bb<N0):NG S (tT Bb N0) where
 below h:=h.below h1 h2
 Yl h hb:=(h.Zy _ _ _ _ hb (by decide) (by decide)).trans hb
 Ws h hb:=(h.Zy _ _ _ _ hb (by decide) (by decide)).trans hb
theorem Wj.zR {Bb N0:Nat} {L:List Nd} {W W':jp3} {row:Option Nat} (h:Wj Bb N0 L W) (hB:Bb<N0) (hg:W.grownBy W' row) (hr:∀ r,row=some r->N0<=r/\∃ o:Obj,W.heap[r]?=some o/\o.isCells=false):Wj Bb N0 L W':=by obtain ⟨wB,rows,v,h1,h2,h3⟩:=h;refine ⟨wB,rows,v,h1,(h2.zR hg (fun r e=>⟨by have:=(hr r e).1;omega,(hr r e).2⟩)).up hg.size (jm1 _),?_⟩;exact (hg.block Bb h3.lt (fun e=>by have:=(hr Bb e.symm).1;omega)).trans h3
theorem Gy {c:Code} {Q:Exit->Act->jp3->Prop} {a:Act} {w:jp3} (h:c.wp Tryz.prog (fun e a w=>(∀ x,e≠Exit.panic x)/\Q e a w) a w):c.wp Tryz.prog Q a w:=Code.wp_mono (fun _ _ _ h=>h.2) h
def Rl (b:ah):Prop:=b.iOf.size<=300/\(b.Gw=14->ah.kR b.kids/\ah.aR b.kids<=900000)
def BV.cs (x:BV):List Value:=[.int .i64 x.kd,.int .i64 x.lv,.string x.i,.string x.t,.string x.d,.string x.ti,.string x.at_.id,x.vc,x.vp,x.vl,x.vk]
def ZG (Bb:Nat):Value:=.func (.func 39) #[] #[.pointer (some ⟨Bb,0,none⟩)]
def Ub (Bb Bf Bl:Nat) (s o v2:Value) (E:Int) (x:BV) (Bx:Nat):Act:={ tmps:=#[s,undef,.slice none 0 0,.int .i64 0,.int .i64 E,.pointer (some ⟨Bb,0,none⟩),o,.pointer (some ⟨Bf,0,none⟩),.pointer (some ⟨Bx,0,none⟩),s,.int .i64 E,.int .i64 E,.bool false,undef,s,v2,.bool false,s,o,ZG Bb,s,.func (.func 87) #[] #[.pointer (some ⟨Bl,0,none⟩)],x.enc,undef,undef,undef,undef,undef,undef,undef,undef,undef,undef,undef,undef,undef,undef,undef,undef,undef,undef,undef,undef,undef],defers:=[] }
def BtX (N0 Bb Bf Bl:Nat) (s o v2:Value) (E:Int) (x:BV) (a':Act) (W:jp3):Prop:=∃ Bx,N0<=Bx/\CB 48 Bx x.cs W/\a'=Ub Bb Bf Bl s o v2 E x Bx
theorem BtX.own {N0 Bb Bf Bl B:Nat} {s o v2:Value} {E:Int} {x:BV} {a':Act}:OwnFrom B (fun (_:Unit) W=>BtX N0 Bb Bf Bl s o v2 E x a' W):=fun _ W W' row ⟨Bx,h1,h2,h3⟩ hg hr=>
 ⟨Bx,h1,(hg.block Bx h2.lt (fun e=>by
  obtain ⟨_,o,k1,k2⟩:=hr Bx e.symm;unfold CB at h2;rw [h2] at k1;cases k1;cases k2)).trans h2,h3⟩
def Uc (Bb N0 S:Nat) (w W0:jp3) (pre:List (BW S w Rl)) (W:jp3):Prop:=Wj Bb N0 ((uq pre).flatMap iW) W/\tT Bb N0 W0 W
theorem Uc.own {Bb N0 S:Nat} {w W0:jp3} (hB:Bb<N0) (hz:N0=W0.heap.size):OwnFrom N0 (Uc Bb N0 S w W0):=fun s W W' row h hg hr=>
 ⟨h.1.zR hB hg hr,h.2.trans (tT.grown hg (by have:=h.2.size;omega) hr)⟩
theorem NH {fn:Func} {R:Ending->jp3->Prop} {a:Act} {w:jp3} {v:Value} (hd:a.defers=[]) (hr:(results fn a.tmps).run Tryz.prog w=.ok v w) (h:R (.returned v) w):bodyPostM Fence.wide 3 Tryz.prog fn R .ret a w:=by show LeavesInM _ _ _ _ _ _ a.defers _ _;rw [hd];unfold LeavesInM LeavesIn;exact ⟨v,hr,h⟩
theorem NJ {n:Nat} {fn:Func} {R:Ending->jp3->Prop} {a:Act} {w:jp3} {v:Value} {D:Nat} (hd:a.defers=[{ target:=.collected D,args:=#[] }]) (hf:w.heap[D]?=some (.deferred (some []))) (hr:∀ w',(results fn a.tmps).run Tryz.prog w'=.ok v w') (h:R (.returned v) (w.putObj D (.deferred none))):bodyPostM Fence.wide n Tryz.prog fn R .ret a w:=by show LeavesInM _ _ _ _ _ _ a.defers _ _;rw [hd];refine ⟨by simp,.inl ⟨D,_,rfl,run_takeDeferred hf,?_⟩⟩;exact ⟨v,hr _,h⟩
theorem gX.ZH {w W:jp3} {E:Nat} {L:List Nd} {v:Value} {D:Nat} (h:gX w E L (.returned v) W) (hD:w.heap.size<=D) (hf:W.heap[D]?=some (.deferred (some []))):gX w E L (.returned v) (W.putObj D (.deferred none)):=by obtain ⟨rows,v',he,hr⟩:=h;have hg:=grownBy_putObj' W D (.deferred none);exact ⟨rows,v',he,(hr.zR hg (fun r e=>by cases e;exact ⟨hD,_,hf,rfl⟩)).up hg.size (jm1 _)⟩
theorem Jk (l:List ah) (v:Value) (w:jp3) (hrd:Rd (·<w.heap.size) w (fC l) [v]) (hsm:ah.aF l) (hsz:ah.aR l<=900000) (hil:(ah.aU l).length<=1000) (hbd:ah.jS l) (ht:PT w) : Calls Tryz.prog 13 #[v] w (gX w (zP l) (TY l)):=by
 obtain ⟨iN,FH,nW,og,oh⟩:=info_parts mG;obtain ⟨a,cap,hv,-⟩:=Rd.aB hrd;obtain ⟨nl,hnl⟩:∃ nl,nl=l.length:=⟨_,rfl⟩;obtain rfl:v=.slice a nl cap:=by rw [hnl];simpa using hv
 have LC:=sG qp l a cap w hsm (fun _=>Ep) (by rw [<- hnl];exact hrd);rw [<- hnl] at LC;have lV:=hid LC;clear hv LC hnl;obtain ⟨S,hS⟩:∃ S,S=w.heap.size:=⟨_,rfl⟩;have FI:=hid hrd;have jM:=hid hsm;have pX:Hid (∀ W:jp3,jp4 S w W->PT W):=fun W hW=>ht.below (by rw [<- hS];exact hW)
 have hee:zP l=if ah.aT qp 0 0 l≠0 then ah.aT qp 0 0 l else if (ah.aU l).any iU=true then 5 else 0:=rfl
 have hnn:TY l=if zP l=0 then eP l else []:=rfl
 have HW:=hid (fun h:zP l=0=>NA l h hsm hsz);have IC:Hid (∀ W:jp3,jp4 S w W->Calls Tryz.prog 37 #[.slice a nl cap] W (fun e w'=>∃ v',e=.returned v'/\Rd (fun _=>True) w' (aX (ah.aU l)) [v']/\jp4 W.heap.size W w')):=fun W hW=>by
  refine (Er l (.slice a nl cap) W (hrd.up (by rw [<- hS];exact hW)) hbd (by omega) (by omega)).mono ?_;rintro e w2 ⟨v2,bR,rfl,hown2,ZI,za,b2⟩;exact ⟨v2,rfl,Rd.lI (by rw [jm6];exact hown2) ZI za (fun _ _=>trivial),b2⟩
 obtain ⟨E0,hE0⟩:∃ E0,E0=ah.aT qp 0 0 l:=⟨_,rfl⟩;obtain ⟨EE,Ma⟩:∃ EE,EE=zP l:=⟨_,rfl⟩;obtain ⟨NN,Ud⟩:∃ NN,NN=TY l:=⟨_,rfl⟩;rw [<- hE0] at lV hee;rw [<- Ma] at hee hnn HW;rw [<- Ud] at hnn;rw [<- Ma,<- Ud];have Ym:=hid hee;have HNN:=hid hnn;have HS:=hid hS;clear hrd hee hnn hE0 Ma Ud ht hS;refine (callsIn_wide (n:=3)).1 ?_;refine callsIn_of_wp_marks Tryz.func13 rfl trivial ?_ rfl;simp only [Tryz.ntmps13,List.size_toArray,List.length_cons,List.length_nil,Nat.reduceAdd,Nat.reduceSub,Array.replicate_succ,Array.replicate_zero,List.push_toArray,List.append_toArray,List.nil_append,List.cons_append];refine wpIn_wide.2 ?_;go_wp2_with fail
 (with_reducible refine lV.out.mono ?_)
 rintro e w1 ⟨rfl,b1⟩;have B1:Hid (jp4 S w w1):=by rw [HS.out];exact b1
 clear b1 lV;by_cases h0:E0=0
 ·have q1:((E0:Int) != 0)=false:=by rw [h0];rfl
  have Wt:Hid (EE=if (ah.aU l).any iU=true then 5 else 0):=by show _=_;rw [Ym.out,if_neg (by simp [h0])]
  have IL:=hid (IC.out w1 B1.out);clear h0;go_wp2_with fail
  (with_reducible refine IL.out.mono ?_)
  rintro e w2 ⟨v2,rfl,Es,b2⟩;have UL:=hid (F9 (ah.aU l) _ v2 w2 Es);obtain ⟨a2,n2,c2,rfl⟩:=Rd.au Es;have B2:=hid (B1.out.trans (b2.mono (by have:=B1.out.size;have:=HS.out;omega)));clear Es b2 IL;go_wp2_with fail
  (with_reducible refine UL.out.mono ?_)
  rintro e w3 ⟨rfl,b3⟩;have B3:=hid (B2.out.trans (b3.mono (by have:=B2.out.size;have:=HS.out;omega)));obtain ⟨u,hu⟩:∃ u,u=(ah.aU l).any iU:=⟨_,rfl⟩;rw [<- hu] at Wt;rw [<- hu];clear b3 UL hu;cases u with
  | true=>
   have HF:Hid (gX w EE NN (.returned (.tuple #[.slice none 0 0,.int .i64 5])) w3):=by
    have h5:EE=5:=by rw [Wt.out];rfl
    rw [h5];exact gX.nil (by rw [HNN.out,h5];rfl) (by rw [<- HS.out];exact B3.out)
   go_wp2;exact NH rfl (by simp [results,Tryz.results13,go_sem]) HF.out
  | false=>
   have hE:EE=0:=by rw [Wt.out];rfl
   obtain ⟨hw1,hw3⟩:=HW.out hE;have Ue:=hid (show NN=eP l by rw [HNN.out,hE];rfl);have HE:=hid hE;have HWN:=hid (show ∀ b∈ah.aV l,Rl b from fun b hb=>⟨Gx (ah.jR l jM.out b hb),fun hk=>hw3 b hb hk⟩);have HEL:=hid (show (ah.aV l).length<=900000 by rw [rH];exact hsz);have xQ:=hid (show (ah.aW l).length<=900000 from jm2 (vG l) (jm2 (ah.cZ l) hsz));obtain ⟨Bb,hBb⟩:∃ Bb,Bb=w3.heap.size:=⟨_,rfl⟩;obtain ⟨w4,hw4⟩:∃ w4,w4=w3.alloc (.cells #[.slice none 0 0] 75):=⟨_,rfl⟩;have k4:aG Bb (.slice none 0 0) 75 w4:=by rw [hw4,hBb];exact aG.new _ _ _
   have b4:jp4 S w w4:=by rw [hw4];exact B3.out.alloc (by have:=B3.out.size;have:=HS.out;omega) _
   have hSB:S<=Bb:=by have:=B3.out.size;have:=HS.out;omega
   have z4:w4.heap.size=Bb+1:=by rw [hw4,jmx,hBb]
   have HC:=hid (sK (.pointer (some ⟨Bb,0,none⟩)) 900000 l (.slice a nl cap) w4 hsz (by omega) (FI.out.up (by rw [<- HS.out];exact b4)) hw1 (pX.out w4 b4));have K4:=hid k4;have B4:=hid b4;have Z4:=hid z4;clear hE hw1 hw3 k4 b4 z4;go_upto_region 7 with (fail)
   rw [<- hw4,<- hBb];clear hw4 hBb;go_wp2_with fail
   (with_reducible refine HC.out.mono ?_)
   rintro e w5 ⟨vY,v5,rfl,bK⟩;obtain ⟨n5,Uf⟩:∃ n5,n5=((ah.aW l).map Nd.d).length:=⟨_,rfl⟩;have jkk:n5<=900000:=by rw [Uf,jm6];exact xQ.out
   obtain ⟨a5,c5,rfl,-,-⟩:=bK.cap Uf.symm;have HN5:=hid Uf.symm;have Ug:=hid bK;have B45:=hid bK.aI;clear bK Uf HC;obtain ⟨Bf,ZJ⟩:∃ Bf,Bf=w5.heap.size:=⟨_,rfl⟩;obtain ⟨w6,jH⟩:∃ w6,w6=w5.alloc (.cells #[ZG Bb] 79):=⟨_,rfl⟩;obtain ⟨W0,hW0⟩:∃ W0,W0=w6.alloc (.cells #[.slice a nl cap] 22):=⟨_,rfl⟩;have z6:w6.heap.size=Bf+1:=by rw [jH,jmx,ZJ]
   have zz:W0.heap.size=Bf+2:=by rw [hW0,jmx,z6]
   have jg2:=B45.out.size;have jkq:Bb<Bf:=by have:=Z4.out;omega
   have g5:jp4 w5.heap.size w5 W0:=by rw [hW0,jH];exact ((jm0 _ _).alloc (jm1 _) _).alloc (by rw [jmx];omega) _
   have bF:aG Bf (ZG Bb) 79 W0:=by rw [hW0,jH,ZJ];exact (aG.new _ _ _).alloc _
   have bL:aG (Bf+1) (.slice a nl cap) 22 W0:=by rw [hW0,<- z6];exact aG.new _ _ _
   have bB:aG Bb (.slice none 0 0) 75 W0:=(K4.out.below (B:=w4.heap.size) (by have:=Z4.out;omega) B45.out).below (B:=w5.heap.size) (by omega) g5;have bl0:jp4 S w W0:=(B4.out.trans (B45.out.mono (by have:=Z4.out;omega))).trans (g5.mono (by have:=Z4.out;omega));have HR5:=hid (Ug.out.below g5);have hU5:w5.heap.size=Bf:=ZJ.symm;have N0:Uc Bb W0.heap.size S w W0 [] W0:=⟨⟨W0,[],.slice none 0 0,rfl,ay.nil _ _ _ _,bB⟩,tT.refl _ _ _⟩;have HFB:=hid (show aG Bf (ZG Bb) 79 W0 from bF);have hnf:∀ (x:Nat) (wx:jp3),Sem.run Tryz.prog (binOp BinOp.eql 81 (Value.func (Fn.func 87) #[] #[Value.pointer (some ⟨x,0,none⟩)]) Value.nilFunc) wx=.ok (.bool false) wx:=fun x wx=>by rfl
   have HBS:=hid (show Rd (·<S) w (fC l) [.slice a nl cap] by rw [HS.out];exact FI.out);have EC:=hid (NK a nl cap w6);rw [<- hW0,z6] at EC;have HU5:=hid hU5;have HZZ:=hid zz;clear bF bB g5 z6 jg2 Ug hU5 hW0;have ZK:ZG Bb=.func (.func 39) #[] #[.pointer (some ⟨Bb,0,none⟩)]:=rfl;rw [ZK] at jH;go_upto_region 9 with (fail)
   rw [<- jH,<- ZJ];clear jH ZJ ZK;go_wp2_with fail
   (with_reducible refine EC.out.mono ?_)
   rintro e w7 ⟨rfl,hw7⟩;rw [hw7];clear EC hw7 w7;go_wp2_with fail
   obtain ⟨s0,hs0⟩:∃ s0,s0=Value.slice a nl cap:=⟨_,rfl⟩;have hN0:W0.heap.size=Bf+2:=HZZ.out;have hBN:Bb<W0.heap.size:=by omega
   refine wpIn_wide (n:=3) |>.1 ?_
   refine wpIn_rangeFunc_ownH (α:=BW S w Rl) rfl (by decide) (gf:=87) (lb:=#[.pointer (some ⟨Bf+1,0,none⟩)]) rfl trivial (enters_of Tryz.func87 (by kernel_rfl) rfl)
    (Gz 2 (Bf+1) S Rl l (.slice a nl cap) w W0 (tT Bb W0.heap.size) (tT.ok hSB hBN) HWN.out HBS.out bl0 (by omega) bL) (fun h k=>h.trans k) (fun W l o o' h1 h2 h3 _=>tT.obj Bb W0.heap.size W l o o' h1 h2 h3) (jm0 _ _) (fun _=>rfl)
    (Uc Bb W0.heap.size S w W0) (fun _ _ _=>False) (Uc.own hBN rfl) (fun c s A B row h _ _=>h) N0
    (fun x a' W=>BtX W0.heap.size Bb Bf (Bf+1) (.slice a nl cap) (.slice a5 n5 c5) (.slice a2 n2 c2) (E0:Int) x.1 a' W) (fun x a'=>BtX.own) ?assign ?body ?done ?stop
   case stop=>rintro D c pre W _ _ h _;exact h.elim
   case assign=>
    rintro l0 pre ⟨⟨kd,lv,i,t,d,ti,at_,li,ks,vc,vp,vl,vk⟩,hR,jkx⟩ W K hi hK;dsimp only at hR hK;obtain ⟨ac,nc,cc,rfl⟩:=Rd.au hR.at_.cls
    obtain ⟨ap,np,cp,rfl⟩:=Rd.au hR.at_.aJ
    obtain ⟨al,nl2,cl,rfl⟩:=Rd.au hR.line;obtain ⟨ak,nk,ck,rfl⟩:=Rd.au hR.kids;have HI:=hid hi;have HK:=hid hK;clear hi hK;dsimp only [BV.enc]
    gi_wp2
    have hsz:=HI.out.2.size;exact HK.out _ _ ((KeepsOthers.alloc _ _).from _) (tT.grown (World.grownBy_alloc _ _ none) hsz (fun r e=>by cases e)) ⟨HI.out.1.zR hBN (World.grownBy_alloc _ _ none) (fun r e=>by cases e),HI.out.2.trans (tT.grown (World.grownBy_alloc _ _ none) hsz (fun r e=>by cases e))⟩ ⟨W.heap.size,hsz,heap_alloc_new W _,rfl⟩
   case body=>
    rintro l0 pre x a' W hl0 _ hN ⟨Bx,hBx,Jl,rfl⟩ hlen;have hR:=x.2.1;have Uh:=x.2.2;obtain ⟨y,hy⟩:∃ y,y=x.1:=⟨_,rfl⟩;rw [<- hy] at hR Jl Uh ⊢;have HEQ:Hid ((uq (pre++[x])).flatMap iW=(uq pre).flatMap iW++iW y.blk):=by show _=_;rw [jv,List.flatMap_append,hy];show _++List.flatMap iW [x.1.blk]=_;rw [List.flatMap_cons,List.flatMap_nil,List.append_nil]
    have ZL:((uq pre).flatMap iW).length<=1000000:=by have h1:=o8 (uq pre);rw [wG] at h1;have:=HEL.out;omega
    obtain ⟨kd,lv,i,t,d,ti,at_,li,ks,vc,vp,vl,vk⟩:=y;dsimp only at hR;have Uh:i.size<=300/\(kd=14->ah.kR ks/\ah.aR ks<=900000):=Uh;obtain ⟨ac,nc,cc,rfl⟩:=Rd.au hR.at_.cls
    obtain ⟨ap,np,cp,rfl⟩:=Rd.au hR.at_.aJ
    obtain ⟨al,nl2,cl,rfl⟩:=Rd.au hR.line;obtain ⟨ak,nk,ck,rfl⟩:=Rd.au hR.kids;have c0:=Jl.cell 0 _ rfl;have hSW:=hN.2.size;have hbW:jp4 S w W:=bl0.trans (hN.2.below (S:=S) hSB hBN);have HN:=hid hN;dsimp only at c0;clear hlen hy hN;unfold Ub;dsimp only [BV.enc];by_cases hk:kd=14
    ·subst hk;have q1:((14:Int)==14)=true:=rfl;have c1:=Jl.cell 1 _ rfl;have c2:=Jl.cell 2 _ rfl;have c3:=Jl.cell 3 _ rfl;have c4:=Jl.cell 4 _ rfl;have c5:=Jl.cell 5 _ rfl;have c6:=Jl.cell 6 _ rfl;have c7:=Jl.cell 7 _ rfl;have c8:=Jl.cell 8 _ rfl;have c9:=Jl.cell 9 _ rfl;have c10:=Jl.cell 10 _ rfl;dsimp only at c1 c2 c3 c4 c5 c6 c7 c8 c9 c10;have bxF:W.cell? ⟨Bf,0,none⟩=some (.func (.func 39) #[] #[.pointer (some ⟨Bb,0,none⟩)]):=aG.cell (t:=79) ((HN.out.2.blk Bf (by omega) (by omega)).trans HFB.out);have hCA:=En Bb W0.heap.size ((uq pre).flatMap iW) 14 lv i t d ti at_ li ks (.slice ac nc cc) (.slice ap np cp) (.slice al nl2 cl) (.slice ak nk ck) W hBN (hR.D5 (fun b (hb:b<S) hlt=>⟨by omega,hbW.block b hb⟩)) (Uh.2 rfl).1 (Uh.2 rfl).2 Uh.1 (pX.out W hbW) ZL HN.out.1
     have HCA:=hid hCA;have hno:iW (BV.blk ⟨14,lv,i,t,d,ti,at_,li,ks,.slice ac nc cc,.slice ap np cp,.slice al nl2 cl,.slice ak nk ck⟩)=[aQ qc [⟨oC,dK++i⟩,⟨iF,gH⟩] (ah.aW ks)]:=rfl;have yg:=hid hno;clear hno hCA Jl hR Uh
     gi_wp2_with fail
     refine ⟨trivial,?_⟩;refine (CallsIn.inRound l0 (callsIn_wide.2 HCA.out)).mono ?_;rintro e W2 ⟨rfl,hBu,hKp,hSt⟩;have HP:Hid (Uc Bb W0.heap.size S w W0 (pre++[x]) W2):=by refine ⟨?_,HN.out.2.trans hKp⟩;rw [HEQ.out,yg.out];exact hBu
     have HKF:Hid (KeepsFrom W0.heap.size W W2):=⟨hKp.size,fun k o hk' ho hc=>hSt k o ho hc⟩;have Yn:=hid hKp;clear hBu hKp hSt c0 c1 c2 c3 c4 c5 c6 c7 c8 c9 c10 bxF HCA;dsimp only
     gi_wp2
     exact ⟨HKF.out,Yn.out,HP.out⟩
    ·have q1:(kd==14)=false:=by rw [beq_eq_false_iff_ne];exact hk
     have HP:Hid (Uc Bb W0.heap.size S w W0 (pre++[x]) W):=by
      have hno:iW (BV.blk ⟨kd,lv,i,t,d,ti,at_,li,ks,.slice ac nc cc,.slice ap np cp,.slice al nl2 cl,.slice ak nk ck⟩)=[]:=by show iW (.mk kd lv i t d ti at_ li ks)=_;unfold iW;exact if_neg hk
      refine ⟨?_,HN.out.2⟩;rw [HEQ.out,hno,List.append_nil];exact HN.out.1
     clear hk Jl hR Uh
     gi_wp2
     exact ⟨(KeepsOthers.refl _).from _,tT.refl _ _ _,HP.out⟩
   case done=>
    rintro D pre W hD hpre hN hK;rw [Uc,hpre] at hN;obtain ⟨⟨wB,rows,vN,TI,hrow,hbx⟩,hkp⟩:=hN;have hnt:(ah.aV l).flatMap iW=mW l:=rfl;rw [hnt] at hrow;obtain ⟨m,hm⟩:∃ m,m=((mW l).map Nd.d).length:=⟨_,rfl⟩;have hm1:m<=900000:=by rw [hm,jm6];exact jm2 (o8 (ah.aV l)) HEL.out
    obtain ⟨av,cv,rfl,-,-⟩:=hrow.cap hm.symm;have hbl:jp4 S w W:=bl0.trans (hkp.below (S:=S) hSB hBN);have hDW:D<W.heap.size:=(Array.getElem?_eq_some_iff.1 hK).1;have hBZ:w5.heap.size=Bf:=HU5.out;obtain ⟨wO,hzO,hrO⟩:=HR5.out.reU (w':=W) hkp.size (fun b h1 h2=>hkp.blk b (by omega) (by have:=Z4.out;omega));have HO:=hid hrO;have ZM:=hid hzO;have HK:=hid hK;have FZ:=hid hbl;have bV:=hid hrow;have CY:=hid TI;have HSW:=hid hkp.size;have x0:=hbx.cell;have Yo:Hid (∀ y:jp3,jp4 W.heap.size W y->y.cell? ⟨Bb,0,none⟩=some (.slice av m cv)):=fun y hy=>(hbx.below (by have:=hkp.size;omega) hy).cell
    have hml:(mW l).length=m:=by rw [hm,jm6]
    have HML:=hid hml;clear hrO hzO hK hbl hrow TI hbx hpre hm hkp hml hnt;by_cases hm0:m=0
    ·have q8:¬ (0:Int)<(m:Int):=by omega
     have HF:Hid (gX w EE NN (.returned (.tuple #[.slice a5 n5 c5,.int .i64 0])) W):=by
      have Ud:NN=ah.aW l:=by rw [Ue.out];unfold eP;rw [if_pos (by rw [List.isEmpty_iff,<- List.length_eq_zero_iff,HML.out];exact hm0),List.append_nil]
      rw [HE.out,Ud];exact ⟨_,_,rfl,(HO.out.vL (by have:=ZM.out;have:=HS.out;have:=Z4.out;omega) (by rw [<- HS.out];exact FZ.out)).top⟩
     have HF2:=hid (HF.out.ZH (by have:=HS.out;omega) HK.out);clear HF;go_wp2;exact NJ rfl HK.out (fun w'=>by simp [results,Tryz.results13,go_sem]) HF2.out
    ·have q8:(0:Int)<(m:Int):=by omega
     have Ud:NN=ah.aW l++[aQ eT [⟨iF,o9⟩] (mW l)]:=by rw [Ue.out];unfold eP;rw [if_neg (by rw [List.isEmpty_iff,<- List.length_eq_zero_iff,HML.out];exact hm0)]
     have jg3:=hid Ud;clear Ud;go_upto_region 14 with (fail)
     refine Gy ?_;refine QX 9 (fun w'=>w'.cell? ⟨Bb,0,none⟩=some (.slice av m cv)) (by kernel_rfl) (Yo.out W.drew (jm0 _ _).drew) ?_;intro hH;refine fU (i:=0) (v:=?_) rfl (by kernel_rfl) (by kernel_rfl) (by kernel_rfl) (by kernel_rfl) (by kernel_rfl) (fun _ _ _ h=>absurd rfl (h.1 _)) hH (Or.inl ⟨by rfl,?_⟩) ?_;rotate_left
     ·(intro wv hSw;(try dsimp only at hSw);go_simp;try with_reducible rfl)
     try simp only [Act.put,jlk,jlq,jlx]
     refine fU (i:=3) (v:=?_) rfl (by kernel_rfl) (by kernel_rfl) (by kernel_rfl) (by kernel_rfl) (by kernel_rfl) (fun _ _ _ h=>absurd rfl (h.1 _)) hH (Or.inl ⟨by rfl,?_⟩) ?_;rotate_left
     ·(intro wv hSw;(try dsimp only at hSw);go_simp;try with_reducible rfl)
     try simp only [Act.put,jlk,jlq,jlx]
     refine fU (i:=4) (v:=?_) rfl (by kernel_rfl) (by kernel_rfl) (by kernel_rfl) (by kernel_rfl) (by kernel_rfl) (fun _ _ _ h=>absurd rfl (h.1 _)) hH (Or.inl ⟨by rfl,?_⟩) ?_;rotate_left
     ·(intro wv hSw;(try dsimp only at hSw);go_simp;try with_reducible rfl)
     try simp only [Act.put,jlk,jlq,jlx]
     refine fU (i:=5) (v:=?_) rfl (by kernel_rfl) (by kernel_rfl) (by kernel_rfl) (by kernel_rfl) (by kernel_rfl) (fun _ _ _ h=>absurd rfl (h.1 _)) hH (Or.inl ⟨by rfl,?_⟩) ?_;rotate_left
     ·(intro wv hSw;(try dsimp only at hSw);go_simp;try with_reducible rfl)
     try simp only [Act.put,jlk,jlq,jlx]
     obtain ⟨y0,hy0⟩:∃ y0,y0=W.drew:=⟨_,rfl⟩;have ZO:jp4 W.heap.size W y0:=by rw [hy0];exact (jm0 _ _).drew
     rw [<- hy0] at hH;rw [<- hy0];clear hy0;have PC:Hid (Calls Tryz.prog 41 #[.slice (some ⟨y0.heap.size,0,none⟩) 2 2] (y0.alloc (.cells #[.string ⟨#[99,108,97,115,115]⟩,.string ⟨#[110,111,116,101,115]⟩] 9)) (bI (y0.alloc (.cells #[.string ⟨#[99,108,97,115,115]⟩,.string ⟨#[110,111,116,101,115]⟩] 9)) [⟨iF,o9⟩])):=QE iF o9 y0;refine q01 (i:=1) rfl (by kernel_rfl) (fun KQ hK=>?_);go_simp;have B1:jp4 W.heap.size W (y0.alloc (.cells #[.string ⟨#[99,108,97,115,115]⟩,.string ⟨#[110,111,116,101,115]⟩] 9)):=ZO.alloc ZO.size _;refine hK.out _ _ (fun _ _=>Yo.out _ B1) (fun hH2=>?_);clear hK KQ hH;have hH:=hH2 (by decide) (by kernel_rfl);clear hH2;try simp only [Act.put,jlk,jlq,jlx]
     refine q01 (i:=2) rfl (by kernel_rfl) (fun KQ hK=>?_);go_simp;go_at_call 41
     (with_reducible refine (PC.out).mono ?_)
     rintro e y2 ⟨bR,v2,rfl,hrow2⟩;obtain ⟨a9,c9,rfl,-,-⟩:=hrow2.cap (n:=1) rfl;have B2:jp4 W.heap.size W y2:=B1.trans (hrow2.aI.mono B1.size);have ZP:=hid (show Rd (W.heap.size<=·) y2 (bP [⟨iF,o9⟩]) [.slice a9 1 c9] from hrow2.fD.weaken (fun b hb=>jm2 B1.size hb));clear hrow2 PC;refine hK.out _ _ (fun _ _=>Yo.out _ B2) (fun hH2=>?_);clear hK KQ hH;have hH:=hH2 (by decide) (by kernel_rfl);clear hH2;try simp only [Act.put,jlk,jlq,jlx]
     refine q01 (i:=6) rfl (by kernel_rfl) (fun KQ hK=>?_);go_simp;go_at_call 40
     (with_reducible refine (kM ⟨#[115,101,99,116,105,111,110]⟩ a9 av 1 m c9 cv y2).mono ?_)
     rintro e y3 ⟨rfl,hb⟩;have B3:jp4 W.heap.size W y3:=B2.trans (hb.mono B2.size);have XD:=hid (show Rd (fun b=>False\/w5.heap.size<=b) y3 (aQ eT [⟨iF,o9⟩] (mW l)).d [.string ⟨#[115,101,99,116,105,111,110]⟩,.string ⟨#[]⟩,.slice a9 1 c9,.slice av m cv] from (Nd.eH ⟨#[115,101,99,116,105,111,110]⟩ ⟨#[]⟩ ⟨(ZP.out.aY hb).weaken (fun b (hb:W.heap.size<=b)=>by have:=HSW.out;show w5.heap.size<=b;omega),(bV.out.fD.aY B3).weaken (fun b (hb:wB.heap.size<=b)=>by have:=CY.out;show w5.heap.size<=b;omega)⟩).weaken (fun b hb=>.inr hb));have U3:=hid (HO.out.below B3);have K3:=hid (show y3.heap[D]?=some (.deferred (some [])) from (B3.block D hDW).trans HK.out);have hD3:D<y3.heap.size:=Nat.lt_of_lt_of_le hDW B3.size;clear hb;refine hK.out _ _ (fun _ _=>Yo.out _ B3) (fun hH2=>?_);clear hK KQ hH;have hH:=hH2 (by decide) (by kernel_rfl);clear hH2;try simp only [Act.put,jlk,jlq,jlx]
     refine q01 (i:=7) rfl (by kernel_rfl) (fun KQ hK=>?_);go_simp;refine hK.out _ _ (fun _ _=>Yo.out _ (B3.alloc B3.size _)) (fun hH2=>?_);clear hK KQ hH;have hH:=hH2 (by decide) (by kernel_rfl);clear hH2;try simp only [Act.put,jlk,jlq,jlx]
     refine q01 (i:=8) rfl (by kernel_rfl) (fun KQ hK=>?_);refine vw (n:=n5) rfl (.tmp 34) (.tmp 41) 28 rfl iN _ 80 Tryz.underlying28 FH nW og oh rfl (by decide) U3.out (fun _=>False.elim) (aQ eT [⟨iF,o9⟩] (mW l)).d [.string ⟨#[115,101,99,116,105,111,110]⟩,.string ⟨#[]⟩,.slice a9 1 c9,.slice av m cv] XD.out rfl jO HN5.out (by omega) (by decide) rfl rfl ?_;intro a6 c6 w8 zS Ui;have hoD:some D≠(Value.slice a5 n5 c5).ownBlock:=fun e=>by have:=U3.out.oU D e.symm;omega
     have K8:w8.heap[D]?=some (.deferred (some [])):=(Ui.block D (by rw [jmx];omega) hoD).trans ((Below.heap_alloc y3 _ D hD3).trans K3.out);have B8:jp4 w.heap.size w w8:=by have h1:jp4 S wO w8:=zS.aI.mono (by have:=ZM.out;have:=Z4.out;omega);have h2:jp4 S w y3:=FZ.out.trans (B3.mono (by have:=FZ.out.size;have:=HS.out;omega));rw [<- HS.out];exact (h2.alloc (by have:=h2.size;have:=HS.out;omega) _).grown Ui (by rw [jmx];have:=h2.size;have:=HS.out;omega) (fun j hj=>by have:=U3.out.own.lt j hj;have:=ZM.out;have:=Z4.out;omega)
     have HF:gX w EE NN (.returned (.tuple #[.slice a6 (n5+1) c6,.int .i64 0])) w8:=by rw [HE.out,jg3.out];refine ⟨vY++[[.string ⟨#[115,101,99,116,105,111,110]⟩,.string ⟨#[]⟩,.slice a9 1 c9,.slice av m cv]],_,rfl,?_⟩;rw [List.map_append];exact zS.vL (by have:=ZM.out;have:=HS.out;have:=Z4.out;omega) B8
     have HF2:=hid (HF.ZH (by have:=HS.out;omega) K8);have HK8:=hid K8;have cb8:w8.cell? ⟨Bb,0,none⟩=some (.slice av m cv):=by
      have hBl:Bb<y3.heap.size:=by omega
      rw [iA (Ui.block Bb (by rw [jmx];omega) (fun e=>by have:=(U3.out.own.lt Bb e.symm).1;have:=ZM.out;have:=Z4.out;omega))];exact Yo.out _ (B3.alloc B3.size _)
     clear zS Ui HF B8 K8 hoD;refine hK.out _ _ (fun _ _=>cb8) (fun hH2=>?_);clear hK KQ hH;have hH:=hH2 (by decide) (by kernel_rfl);clear hH2;try simp only [Act.put,jlk,jlq,jlx]
     refine q01 (i:=9) rfl (by kernel_rfl) (fun KQ hK=>?_);go_simp;refine hK.out _ _ (fun h=>absurd rfl h) (fun _=>?_);clear hK KQ hH;try simp only [Act.put,jlk,jlq,jlx]
     refine Gp (by kernel_rfl) ?_ _;refine ⟨fun _ h=>(by cases h),?_⟩;clear XD U3 ZP;go_wp2;exact NJ rfl HK8.out (fun w'=>by simp [results,Tryz.results13,go_sem]) HF2.out
 ·have q1:((E0:Int) != 0)=true:=by rw [bne_iff_ne];omega
  have HF:Hid (gX w EE NN (.returned (.tuple #[.slice none 0 0,.int .i64 (E0:Int)])) w1):=by
   have h5:EE=E0:=by rw [Ym.out,if_pos (by simpa using h0)]
   rw [h5];exact gX.nil (by rw [HNN.out,h5,if_neg h0]) (by rw [<- HS.out];exact B1.out)
  clear h0;go_wp2;exact NH rfl (by simp [results,Tryz.results13,go_sem]) HF.out
open Go.RowKit
theorem Rm {ok:Nat->Prop} {w:jp3} {n t:ByteArray} {a:List Pr} {ks:List Nd} {va vk:Value} (h:Rd ok w (Nd.mk n t a ks).d [.string n,.string t,va,vk]):Rd ok w (cO ks) [vk]:=by obtain ⟨va',Uj,e,hR⟩:=Nd.open_ h;simp only [List.cons.injEq,and_true,true_and] at e;obtain ⟨rfl,rfl⟩:=e;exact hR.ks
def PgX (w w':jp3) (title:ByteArray) (at_:List Pr) (va vk:Value):Prop:=
 ∃ (p3:Nat) (kh bv:Value),vk=.slice (some ⟨p3,0,none⟩) 2 2/\w.heap.size<=p3/\CB 35 p3 [.string iX,.string ⟨#[]⟩,.slice none 0 0,kh,.string gI,.string ⟨#[]⟩,.slice none 0 0,bv] w' /\
  Rd (fun b=>w.heap.size<=b/\b<p3) w' (cO [aQ jw [⟨Dc,gJ⟩] [],aQ fV [] (bS title)]) [kh]/\Rd (fun b=>w.heap.size<=b/\b<p3) w' (bP at_) [va]
def jT (w:jp3) (title:ByteArray) (E:Nat) (x:Nd) (e:Ending) (w':jp3):Prop:=
 ∃ va vk,e=.returned (.tuple #[.agg #[.string x.nm,.string x.tx,va,vk],.int .i64 (E:Int)])/\kZ (w.heap.size<=·) w' x.at_ x.ks va vk/\jp4 w.heap.size w w'/\(E=0->PgX w w' title x.at_ va vk)
theorem jT.of {w w':jp3} {title:ByteArray} {E:Nat} {E':Int} {x:Nd} {v:Value} (h:sI w x (.returned v) w') (hE:E'=(E:Int)) (hx:E=0->∀ va vk,v=.agg #[.string x.nm,.string x.tx,va,vk]->PgX w w' title x.at_ va vk):jT w title E x (.returned (.tuple #[v,.int .i64 E'])) w':=by
 obtain ⟨va,vk,he,h1,h2⟩:=h;subst hE;injection he with he
 exact ⟨va,vk,by rw [he],h1,h2,fun h0=>hx h0 va vk he⟩
theorem GA (me:List Pr) (l:List ah) (title lang:ByteArray) (vm vb:Value) (w:jp3) (hm:Rd (·<w.heap.size) w (bP me) [vm]) (hb:Rd (·<w.heap.size) w (fC l) [vb]) (hme:me.length<=1000) (sH:∀ p∈me,p.key.size<=1000/\p.val.size<=1000) (hall:ah.bU l<=32768) (hsm:ah.aF l) (hsz:ah.aR l<=900000) (hil:(ah.aU l).length<=1000) (hbd:ah.jS l) (hti:title.size<=300) (hla:lang.size<=300) (ht:PT w) : Calls Tryz.prog 16 #[.agg #[vm,vb],.string title,.string lang] w (jT w title (KJ me l title lang) (T9 me l title lang)):=by
 obtain ⟨am,cm,Wu,-⟩:=Rd.aB hm;obtain ⟨nm,hnm⟩:∃ nm,nm=me.length:=⟨_,rfl⟩;obtain rfl:vm=.slice am nm cm:=by rw [hnm];simpa using Wu
 obtain ⟨ab,nb,cb,rfl⟩:=Rd.au hb;clear Wu;obtain ⟨S,W0,hS,hW0,z0,k0,k1,b0⟩:=rz 26 w [.slice am nm cm,.slice ab nb cb];have KO:jp4 w.heap.size w W0:=by rw [<- hS];exact b0
 have CK:=F8 qp me l am ab cm nb cb W0 hme sH hall hsm (fun _=>Ep) (by rw [<- hnm];exact hm.up KO) (hb.up KO);rw [<- hnm] at CK;have BC:Hid (∀ W:jp3,jp4 W0.heap.size W0 W->Calls Tryz.prog 13 #[.slice ab nb cb] W (gX W (zP l) (TY l))):=fun W hW=>Jk l _ W (hb.up (KO.trans (hW.mono KO.size))) hsm hsz hil hbd (ht.below (KO.trans (hW.mono KO.size)))
 have LC:Hid (∀ W:jp3,Calls Tryz.prog 51 #[.string title] W (dN (.bool (iK title)) W)):=fun W=>by
  have h:=DX title W (by omega);rw [KM] at h;exact h
 have NC:Hid (∀ W:jp3,Calls Tryz.prog 52 #[.string lang] W (fun e w'=>e=.returned (.bool (jG lang))/\W=w')):=fun W=>LX lang W (by omega)
 obtain ⟨EE,Ma⟩:∃ EE,EE=KJ me l title lang:=⟨_,rfl⟩;obtain ⟨E0,hE0⟩:∃ E0,E0=iO qp me l:=⟨_,rfl⟩;obtain ⟨T,hT⟩:∃ T,T=iK title:=⟨_,rfl⟩;obtain ⟨G,hG⟩:∃ G,G=jG lang:=⟨_,rfl⟩;obtain ⟨EB,Wv⟩:∃ EB,EB=zP l:=⟨_,rfl⟩;obtain ⟨NB,hNB⟩:∃ NB,NB=TY l:=⟨_,rfl⟩;have hee:EE=if E0≠0 then E0 else if T=false then 17 else if G=false then 6 else EB:=by
  rw [Ma,hE0,hT,hG,Wv];unfold KJ;by_cases h0:iO qp me l≠0
  ·rw [if_pos h0,if_pos h0]
  ·rw [if_neg h0,if_neg h0];have h1:zP l=if (ah.aU l).any iU=true then 5 else 0:=by
    unfold zP;rw [if_neg (by rw [Nw (Classical.not_not.1 h0)];simp)]
   rw [h1]
 have hpn:T9 me l title lang=if EE=0 then fq title lang (eP l) else mV:=by rw [Ma];rfl
 have hnb:EB=0->NB=eP l:=fun h=>by rw [hNB];unfold TY;rw [if_pos (Wv.symm.trans h)]
 rw [<- hE0] at CK;rw [<- hT] at LC;rw [<- hG] at NC;rw [<- Wv,<- hNB] at BC;rw [<- Ma];have HCK:=hid CK;have Ym:=hid hee;have ZQ:=hid hpn;have Rn:=hid hnb;have Da:=hid hS;have HW0:=hid hW0;have Z0:=hid z0;have B0:=hid b0;have K1:=hid k1;have X0:Hid (∀ W:jp3,jp4 W0.heap.size W0 W->W.cell? ⟨S,1,none⟩=some (.slice ab nb cb)):=fun W hW=>(k0.below hW).cell 1 _ rfl
 have x0:=k0.cell 0 _ rfl;have x1:=k0.cell 1 _ rfl;clear CK hm hb hme sH hall hsm hsz hil hbd hti hla ht Ma hE0 hT hG Wv hNB hee hpn hnb hS hW0 z0 b0 k1 k0 KO hnm;go_enter Tryz.func16,Tryz.ntmps16;go_upto_region 1 with (fail)
 rw [<- Da.out];have hk0:=HW0.out;simp only [jN] at hk0;rw [<- hk0];clear hk0;go_wp2_with fail
 (with_reducible refine HCK.out.mono ?_)
 rintro e w1 ⟨rfl,b1⟩;have B1:=hid b1;clear b1 HCK x0 x1;by_cases h0:E0=0
 ·have q1:((E0:Int) != 0)=false:=by rw [h0];rfl
  have HE1:Hid (EE=if T=false then 17 else if G=false then 6 else EB):=by show _=_;rw [Ym.out,if_neg (by simp [h0])]
  have LT:=hid (LC.out w1);clear h0 Ym;go_wp2_with fail
  (with_reducible refine LT.out.mono ?_)
  rintro e w2 ⟨rfl,b2⟩;have B2:=hid (aP B1.out b2);clear b2 LT;cases T with
  | false=>
   have ZR:=hid (show EE=17 by rw [HE1.out];rfl);have Ww:=hid (show T9 me l title lang=mV by rw [ZQ.out,ZR.out];rfl);obtain ⟨x0,x1,x2,x3,xf⟩:=pY (K1.out.below B2.out);obtain ⟨w9,bM⟩:∃ w9,w9=four w2 (S+1) (.string ⟨#[]⟩) (.string ⟨#[]⟩) (.slice none 0 0) (.slice none 0 0):=⟨_,rfl⟩;have hf:=fE ⟨#[]⟩ ⟨#[]⟩ [] [] Da.out Z0.out B0.out K1.out B2.out ⟨Rd.aD _ _ _,Rd.aD _ _ _⟩;rw [<- bM] at hf;have iZ:=hid hf.1;have Bz:=hid hf.2;clear hf;have hw8:=bM;simp only [four] at hw8;clear bM;go_wp2;rw [<- hw8];have r0:=iZ.out.cell 0 _ rfl;have r1:=iZ.out.cell 1 _ rfl;have r2:=iZ.out.cell 2 _ rfl;have r3:=iZ.out.cell 3 _ rfl;exact bodyPost_ret (v:=.tuple #[.agg #[.string ⟨#[]⟩,.string ⟨#[]⟩,.slice none 0 0,.slice none 0 0],.int .i64 (17)]) (by simp [results,Tryz.results16,go_sem,r0,r1,r2,r3]) rfl (by rw [Ww.out,ZR.out];exact jT.of Bz.out (by simp) (fun h=>by cases h))
  | true=>
   have NT:=hid (NC.out w2);go_wp2_with fail
   (with_reducible refine NT.out.mono ?_)
   rintro e w3 ⟨rfl,hw3⟩;rw [<- hw3];clear NT hw3 w3;cases G with
   | false=>
    have HE6:=hid (show EE=6 by rw [HE1.out];rfl);have Ww:=hid (show T9 me l title lang=mV by rw [ZQ.out,HE6.out];rfl);obtain ⟨x0,x1,x2,x3,xf⟩:=pY (K1.out.below B2.out);obtain ⟨w9,bM⟩:∃ w9,w9=four w2 (S+1) (.string ⟨#[]⟩) (.string ⟨#[]⟩) (.slice none 0 0) (.slice none 0 0):=⟨_,rfl⟩;have hf:=fE ⟨#[]⟩ ⟨#[]⟩ [] [] Da.out Z0.out B0.out K1.out B2.out ⟨Rd.aD _ _ _,Rd.aD _ _ _⟩;rw [<- bM] at hf;have iZ:=hid hf.1;have Bz:=hid hf.2;clear hf;have hw8:=bM;simp only [four] at hw8;clear bM;go_wp2;rw [<- hw8];have r0:=iZ.out.cell 0 _ rfl;have r1:=iZ.out.cell 1 _ rfl;have r2:=iZ.out.cell 2 _ rfl;have r3:=iZ.out.cell 3 _ rfl;exact bodyPost_ret (v:=.tuple #[.agg #[.string ⟨#[]⟩,.string ⟨#[]⟩,.slice none 0 0,.slice none 0 0],.int .i64 (6)]) (by simp [results,Tryz.results16,go_sem,r0,r1,r2,r3]) rfl (by rw [Ww.out,HE6.out];exact jT.of Bz.out (by simp) (fun h=>by cases h))
   | true=>
    have HEB:=hid (show EE=EB by rw [HE1.out];rfl);have BT:=hid (BC.out w2 B2.out);have x1:=X0.out w2 B2.out;go_wp2_with fail
    (with_reducible refine BT.out.mono ?_)
    rintro e w3 ⟨dM,v3,rfl,hrow3⟩;obtain ⟨a3,n3,c3,rfl⟩:=hrow3.slice3;have B3:=hid (aP B2.out hrow3.aI);have KB3:=hid (show Rd (W0.heap.size<=·) w3 (cO NB) [.slice a3 n3 c3] from hrow3.fD.weaken (fun b (hb:w2.heap.size<=b)=>jm2 B2.out.size hb));clear hrow3 BT x1;by_cases hB0:EB=0
    ·have q2:((EB:Int) != 0)=false:=by rw [hB0];rfl
     have HPF:=hid (show T9 me l title lang=fq title lang (eP l) by rw [ZQ.out,if_pos (by rw [HEB.out,hB0])]);have H0:=hid (show EE=0 by rw [HEB.out,hB0]);have KP3:=hid (show Rd (W0.heap.size<=·) w3 (cO (eP l)) [.slice a3 n3 c3] by rw [<- Rn.out hB0];exact KB3.out);clear hB0 KB3;have PC:Hid (Calls Tryz.prog 41 #[.slice (some ⟨w3.heap.size,0,none⟩) 2 2] (w3.alloc (.cells #[.string ⟨#[99,104,97,114,115,101,116]⟩,.string ⟨#[117,116,102,45,56]⟩] 9)) (bI (w3.alloc (.cells #[.string ⟨#[99,104,97,114,115,101,116]⟩,.string ⟨#[117,116,102,45,56]⟩] 9)) [⟨Dc,gJ⟩])):=QE Dc gJ w3;have bA:jp4 w3.heap.size w3 (w3.alloc (.cells #[.string ⟨#[99,104,97,114,115,101,116]⟩,.string ⟨#[117,116,102,45,56]⟩] 9)):=(jm0 _ _).alloc (jm1 _) _;go_wp2_with fail
     (with_reducible refine PC.out.mono ?_)
     rintro e w4 ⟨dX,v4,rfl,hrow4⟩;obtain ⟨a4,c4,rfl,-,-⟩:=hrow4.cap (n:=1) rfl;have b34:jp4 w3.heap.size w3 w4:=bA.trans (hrow4.aI.mono bA.size);have B4:=hid (aP B3.out b34);have PR4:=hid (show Rd (W0.heap.size<=·) w4 (bP [⟨Dc,gJ⟩]) [.slice a4 1 c4] from hrow4.fD.weaken (fun b hb=>jm2 B3.out.size (jm2 bA.size hb)));have KP4:=hid (KP3.out.aY b34);have EC1:=hid (kM ⟨#[109,101,116,97]⟩ a4 none 1 0 c4 0 w4);clear hrow4 bA b34 PC KP3;go_wp2_with fail
     (with_reducible refine EC1.out.mono ?_)
     rintro e w5 ⟨rfl,b5⟩;have B5:=hid (aP B4.out b5);have XM5:=hid (show Rd (W0.heap.size<=·) w5 (aQ jw [⟨Dc,gJ⟩] []).d [.string ⟨#[109,101,116,97]⟩,.string ⟨#[]⟩,.slice a4 1 c4,.slice none 0 0] from Nd.eH ⟨#[109,101,116,97]⟩ ⟨#[]⟩ ⟨PR4.out.aY b5,Rd.aD _ _ _⟩);have KP5:=hid (KP4.out.aY b5);have DC:=hid (fQ title w5);clear b5 EC1 PR4 KP4;go_wp2_with fail
     (with_reducible refine DC.out.mono ?_)
     rintro e w6 ⟨Uk,v6,rfl,qm⟩;obtain ⟨a6,n6,c6,rfl⟩:=qm.slice3;have B6:=hid (aP B5.out qm.aI);have XM6:=hid (XM5.out.aY qm.aI);have KP6:=hid (KP5.out.aY qm.aI);have KT6:=hid (show Rd (W0.heap.size<=·) w6 (cO (bS title)) [.slice a6 n6 c6] from qm.fD.weaken (fun b (hb:w5.heap.size<=b)=>jm2 B5.out.size hb));have TF:=hid (kM ⟨#[116,105,116,108,101]⟩ none a6 0 n6 0 c6 w6);clear qm DC XM5 KP5;go_wp2_with fail
     (with_reducible refine TF.out.mono ?_)
     rintro e w7 ⟨rfl,b7⟩;have B7:=hid (aP B6.out b7);have KD7:=hid (Jm (ok:=(W0.heap.size<=·)) (w:=w7) (x:=(aQ jw [⟨Dc,gJ⟩] [])) (y:=(aQ fV [] (bS title))) B7.out.size (XM6.out.aY b7) (Nd.eH ⟨#[116,105,116,108,101]⟩ ⟨#[]⟩ ⟨Rd.aD _ _ _,KT6.out.aY b7⟩));have bA:jp4 w7.heap.size w7 (w7.alloc (.cells #[.string ⟨#[109,101,116,97]⟩,.string ⟨#[]⟩,.slice a4 1 c4,.slice none 0 0,.string ⟨#[116,105,116,108,101]⟩,.string ⟨#[]⟩,.slice none 0 0,.slice a6 n6 c6] 35)):=(jm0 _ _).alloc (jm1 _) _;have BA7:=hid (aP B7.out bA);have ZT:=hid ((KP6.out.aY b7).aY bA);obtain ⟨p7,Wx⟩:∃ p7,p7=w7.heap.size:=⟨_,rfl⟩;have HP7:=hid Wx;have EC3:=kM ⟨#[104,101,97,100]⟩ none (some ⟨p7,0,none⟩) 0 2 0 2 (w7.alloc (.cells #[.string ⟨#[109,101,116,97]⟩,.string ⟨#[]⟩,.slice a4 1 c4,.slice none 0 0,.string ⟨#[116,105,116,108,101]⟩,.string ⟨#[]⟩,.slice none 0 0,.slice a6 n6 c6] 35));rw [<- Wx] at KD7;have EC3:=hid EC3;clear b7 TF XM6 KP6 KT6 bA Wx;go_wp2_with fail
     rw [<- HP7.out]
     (with_reducible refine EC3.out.mono ?_)
     rintro e w8 ⟨rfl,b8⟩;have B8:=hid (aP BA7.out b8);have XH8:=hid (show Rd (W0.heap.size<=·) w8 (aQ iX [] [(aQ jw [⟨Dc,gJ⟩] []),(aQ fV [] (bS title))]).d [.string ⟨#[104,101,97,100]⟩,.string ⟨#[]⟩,.slice none 0 0,.slice (some ⟨p7,0,none⟩) 2 2] from Nd.eH ⟨#[104,101,97,100]⟩ ⟨#[]⟩ ⟨Rd.aD _ _ _,KD7.out.aY b8⟩);have ZU:=hid (ZT.out.aY b8);obtain ⟨Bh,hBh⟩:∃ Bh,Bh=w8.heap.size:=⟨_,rfl⟩;obtain ⟨wH,hwH⟩:∃ wH,wH=w8.alloc (.cells #[.string ⟨#[104,101,97,100]⟩,.string ⟨#[]⟩,.slice none 0 0,.slice (some ⟨p7,0,none⟩) 2 2] 35):=⟨_,rfl⟩;have bH:jp4 w8.heap.size w8 wH:=by rw [hwH];exact (jm0 _ _).alloc (jm1 _) _
     have kH:CB 35 Bh [.string ⟨#[104,101,97,100]⟩,.string ⟨#[]⟩,.slice none 0 0,.slice (some ⟨p7,0,none⟩) 2 2] wH:=by rw [hwH,hBh];exact CB.new _ _ _
     have BH:=hid (aP B8.out bH);have XHH:=hid (XH8.out.aY bH);have KPH:=hid (ZU.out.aY bH);have HCH:Hid (∀ y:jp3,jp4 wH.heap.size wH y->y.cell? ⟨Bh,0,none⟩=some (.string ⟨#[104,101,97,100]⟩)/\y.cell? ⟨Bh,1,none⟩=some (.string ⟨#[]⟩)/\y.cell? ⟨Bh,2,none⟩=some (.slice none 0 0)/\y.cell? ⟨Bh,3,none⟩=some (.slice (some ⟨p7,0,none⟩) 2 2)):=fun y hy=>⟨(kH.below hy).cell 0 _ rfl,(kH.below hy).cell 1 _ rfl,(kH.below hy).cell 2 _ rfl,(kH.below hy).cell 3 _ rfl⟩
     clear b8 EC3 KD7 ZT XH8 ZU bH kH;go_upto_region 12 with (fail)
     rw [<- hwH,<- hBh];clear hwH hBh;refine QX 8 (fun w'=>jp4 wH.heap.size wH w') (by kernel_rfl) (jm0 _ _).drew ?_;intro hH;refine ig 0 (v:=?_) rfl (by kernel_rfl) hH (by rfl) ?_ ?_;rotate_left
     ·(intro wv hSw;obtain ⟨c0,c1,c2,c3⟩:=HCH.out wv hSw;go_simp;try with_reducible rfl)
     try simp only [Act.put,jlk,jlq,jlx]
     refine ig 3 (v:=?_) rfl (by kernel_rfl) hH (by rfl) ?_ ?_;rotate_left
     ·(intro wv hSw;obtain ⟨c0,c1,c2,c3⟩:=HCH.out wv hSw;go_simp;try with_reducible rfl)
     try simp only [Act.put,jlk,jlq,jlx]
     refine ig 4 (v:=?_) rfl (by kernel_rfl) hH (by rfl) ?_ ?_;rotate_left
     ·(intro wv hSw;obtain ⟨c0,c1,c2,c3⟩:=HCH.out wv hSw;go_simp;try with_reducible rfl)
     try simp only [Act.put,jlk,jlq,jlx]
     obtain ⟨y0,hy0⟩:∃ y0,y0=wH.drew:=⟨_,rfl⟩;have ZO:jp4 wH.heap.size wH y0:=by rw [hy0];exact (jm0 _ _).drew
     rw [<- hy0] at hH;rw [<- hy0];clear hy0;have LC2:Hid (Calls Tryz.prog 41 #[.slice (some ⟨y0.heap.size,0,none⟩) 2 2] (y0.alloc (.cells #[.string ⟨#[108,97,110,103]⟩,.string lang] 9)) (bI (y0.alloc (.cells #[.string ⟨#[108,97,110,103]⟩,.string lang] 9)) [⟨iQ,lang⟩])):=QE iQ lang y0;refine q01 (i:=1) rfl (by kernel_rfl) (fun KQ hK=>?_);go_simp;have B1y:jp4 wH.heap.size wH (y0.alloc (.cells #[.string ⟨#[108,97,110,103]⟩,.string lang] 9)):=ZO.alloc ZO.size _;refine hK.out _ _ (fun _ _=>B1y) (fun hH2=>?_);clear hK KQ hH;have hH:=hH2 (by decide) (by kernel_rfl);clear hH2;try simp only [Act.put,jlk,jlq,jlx]
     refine q01 (i:=2) rfl (by kernel_rfl) (fun KQ hK=>?_);go_simp;go_at_call 41
     (with_reducible refine (LC2.out).mono ?_)
     rintro e y2 ⟨bR,v2,rfl,hrow2⟩;obtain ⟨a9,c9,rfl,-,-⟩:=hrow2.cap (n:=1) rfl;have B2y:jp4 wH.heap.size wH y2:=B1y.trans (hrow2.aI.mono B1y.size);have ZP:=hid (show Rd (W0.heap.size<=·) y2 (bP [⟨iQ,lang⟩]) [.slice a9 1 c9] from hrow2.fD.weaken (fun b hb=>jm2 BH.out.size (jm2 B1y.size hb)));clear hrow2 LC2;refine hK.out _ _ (fun _ _=>B2y) (fun hH2=>?_);clear hK KQ hH;have hH:=hH2 (by decide) (by kernel_rfl);clear hH2;try simp only [Act.put,jlk,jlq,jlx]
     refine q01 (i:=5) rfl (by kernel_rfl) (fun KQ hK=>?_);go_simp;go_at_call 40
     (with_reducible refine (kM ⟨#[98,111,100,121]⟩ none a3 0 n3 0 c3 y2).mono ?_)
     rintro e y3 ⟨rfl,hb⟩;have Ul:jp4 wH.heap.size wH y3:=B2y.trans (hb.mono B2y.size);have PR3:=hid (ZP.out.aY hb);have KD3:=hid (Jm (ok:=(W0.heap.size<=·)) (w:=y3) (x:=(aQ iX [] [(aQ jw [⟨Dc,gJ⟩] []),(aQ fV [] (bS title))])) (y:=(aQ gI [] (eP l))) (jm2 BH.out.size Ul.size) (XHH.out.aY Ul) (Nd.eH ⟨#[98,111,100,121]⟩ ⟨#[]⟩ ⟨Rd.aD _ _ _,KPH.out.aY Ul⟩));have HXK:=hid (show Rd (fun b=>W0.heap.size<=b/\b<y3.heap.size) y3 (cO [aQ jw [⟨Dc,gJ⟩] [],aQ fV [] (bS title)]) [.slice (some ⟨p7,0,none⟩) 2 2] from (Rm (XHH.out.aY Ul)).inside);have HXA:=hid (show Rd (fun b=>W0.heap.size<=b/\b<y3.heap.size) y3 (bP [⟨iQ,lang⟩]) [.slice a9 1 c9] from PR3.out.inside);clear hb ZP;refine hK.out _ _ (fun _ _=>Ul) (fun hH2=>?_);clear hK KQ hH;have hH:=hH2 (by decide) (by kernel_rfl);clear hH2;try simp only [Act.put,jlk,jlq,jlx]
     refine q01 (i:=6) rfl (by kernel_rfl) (fun KQ hK=>?_);go_simp;have bA:jp4 y3.heap.size y3 (y3.alloc (.cells #[.string ⟨#[104,101,97,100]⟩,.string ⟨#[]⟩,.slice none 0 0,.slice (some ⟨p7,0,none⟩) 2 2,.string ⟨#[98,111,100,121]⟩,.string ⟨#[]⟩,.slice none 0 0,.slice a3 n3 c3] 35)):=(jm0 _ _).alloc (jm1 _) _;have B6y:jp4 wH.heap.size wH (y3.alloc (.cells #[.string ⟨#[104,101,97,100]⟩,.string ⟨#[]⟩,.slice none 0 0,.slice (some ⟨p7,0,none⟩) 2 2,.string ⟨#[98,111,100,121]⟩,.string ⟨#[]⟩,.slice none 0 0,.slice a3 n3 c3] 35)):=Ul.trans (bA.mono Ul.size);have PR6:=hid (PR3.out.aY bA);have Wy:=hid (HXK.out.aY bA);have Wz:=hid (HXA.out.aY bA);have WA:=hid (CB.new 35 [.string ⟨#[104,101,97,100]⟩,.string ⟨#[]⟩,.slice none 0 0,.slice (some ⟨p7,0,none⟩) 2 2,.string ⟨#[98,111,100,121]⟩,.string ⟨#[]⟩,.slice none 0 0,.slice a3 n3 c3] y3);have HY3:=hid Ul.size;obtain ⟨y6,hN⟩:∃ y6,y6=y3.alloc (.cells #[.string ⟨#[104,101,97,100]⟩,.string ⟨#[]⟩,.slice none 0 0,.slice (some ⟨p7,0,none⟩) 2 2,.string ⟨#[98,111,100,121]⟩,.string ⟨#[]⟩,.slice none 0 0,.slice a3 n3 c3] 35):=⟨_,rfl⟩;obtain ⟨p3,hf⟩:∃ p3,p3=y3.heap.size:=⟨_,rfl⟩;rw [<- hN,<- hf] at KD3;rw [<- hN] at PR6 B6y;have Wy:Hid (Rd (fun b=>W0.heap.size<=b/\b<p3) y6 (cO [aQ jw [⟨Dc,gJ⟩] [],aQ fV [] (bS title)]) [.slice (some ⟨p7,0,none⟩) 2 2]):=by show Rd _ _ _ _;rw [hf,hN];exact Wy.out
     have Wz:Hid (Rd (fun b=>W0.heap.size<=b/\b<p3) y6 (bP [⟨iQ,lang⟩]) [.slice a9 1 c9]):=by show Rd _ _ _ _;rw [hf,hN];exact Wz.out
     have WA:Hid (CB 35 p3 [.string ⟨#[104,101,97,100]⟩,.string ⟨#[]⟩,.slice none 0 0,.slice (some ⟨p7,0,none⟩) 2 2,.string ⟨#[98,111,100,121]⟩,.string ⟨#[]⟩,.slice none 0 0,.slice a3 n3 c3] y6):=by show CB _ _ _ _;rw [hf,hN];exact WA.out
     have HY3:Hid (wH.heap.size<=p3):=by show _<=_;rw [hf];exact HY3.out
     rw [<- hN,<- hf];clear hN hf bA PR3;refine hK.out _ _ (fun _ _=>B6y) (fun hH2=>?_);clear hK KQ hH;have hH:=hH2 (by decide) (by kernel_rfl);clear hH2;try simp only [Act.put,jlk,jlq,jlx]
     refine q01 (i:=7) rfl (by kernel_rfl) (fun KQ hK=>?_);go_simp;go_at_call 40
     (with_reducible refine (kM ⟨#[104,116,109,108]⟩ a9 (some ⟨p3,0,none⟩) 1 2 c9 2 y6).mono ?_)
     rintro e y7 ⟨rfl,hb⟩;have B7y:jp4 wH.heap.size wH y7:=B6y.trans (hb.mono B6y.size);have HN:=hid (show kZ (W0.heap.size<=·) y7 [⟨iQ,lang⟩] [(aQ iX [] [(aQ jw [⟨Dc,gJ⟩] []),(aQ fV [] (bS title))]),(aQ gI [] (eP l))] (.slice a9 1 c9) (.slice (some ⟨p3,0,none⟩) 2 2) from ⟨PR6.out.aY hb,KD3.out.aY hb⟩);have BL:=hid (aP BH.out B7y);have jg4:=hid (Wy.out.aY hb);have jg5:=hid (Wz.out.aY hb);have jg6:=hid (WA.out.below hb);clear hb PR6 KD3;refine hK.out _ _ (fun _ _=>B7y) (fun hH2=>?_);clear hK KQ hH;have hH:=hH2 (by decide) (by kernel_rfl);clear hH2;try simp only [Act.put,jlk,jlq,jlx]
     refine q01 (i:=8) rfl (by kernel_rfl) (fun KQ hK=>?_);obtain ⟨x0,x1,x2,x3,xf⟩:=pY (K1.out.below BL.out);go_simp;clear x0 x1 x2 x3 xf;refine hK.out _ _ (fun h=>absurd rfl h) (fun _=>?_);clear hK KQ hH;try simp only [Act.put,jlk,jlq,jlx]
     refine q01 (i:=9) rfl (by kernel_rfl) (fun KQ hK=>?_);go_simp;refine hK.out _ _ (fun _ h=>absurd h (by decide)) (fun _=>?_);clear hK KQ;try simp only [Act.put,jlk,jlq,jlx]
     refine Gp (by kernel_rfl) ?_ _;obtain ⟨w9,bM⟩:∃ w9,w9=four y7 (S+1) (.string ⟨#[104,116,109,108]⟩) (.string ⟨#[]⟩) (.slice a9 1 c9) (.slice (some ⟨p3,0,none⟩) 2 2):=⟨_,rfl⟩;have HX9:Hid (PgX w w9 title [⟨iQ,lang⟩] (.slice a9 1 c9) (.slice (some ⟨p3,0,none⟩) 2 2)):=by
      have e1:=Z0.out;have e2:=BH.out.size;have e4:=HY3.out;have e5:=Da.out;refine ⟨p3,.slice (some ⟨p7,0,none⟩) 2 2,.slice a3 n3 c3,rfl,by omega,?_,?_,?_⟩
      ·rw [bM];exact (gW _ _ _ _ _ _ p3 (by omega)).trans jg6.out
      ·rw [bM];exact Rd.keep (fun b (hb:W0.heap.size<=b/\b<p3) _=>⟨⟨by omega,hb.2⟩,gW _ _ _ _ _ _ b (by omega)⟩) _ _ jg4.out
      ·rw [bM];exact Rd.keep (fun b (hb:W0.heap.size<=b/\b<p3) _=>⟨⟨by omega,hb.2⟩,gW _ _ _ _ _ _ b (by omega)⟩) _ _ jg5.out
     have hf:=fE ⟨#[104,116,109,108]⟩ ⟨#[]⟩ [⟨iQ,lang⟩] [(aQ iX [] [(aQ jw [⟨Dc,gJ⟩] []),(aQ fV [] (bS title))]),(aQ gI [] (eP l))] Da.out Z0.out B0.out K1.out BL.out HN.out;rw [<- bM] at hf;have iZ:=hid hf.1;have Bz:=hid hf.2;clear hf;have hw8:=bM;simp only [four] at hw8;clear bM;rw [<- hw8];clear hw8;go_wp2;have r0:=iZ.out.cell 0 _ rfl;have r1:=iZ.out.cell 1 _ rfl;have r2:=iZ.out.cell 2 _ rfl;have r3:=iZ.out.cell 3 _ rfl;exact bodyPost_ret (v:=.tuple #[.agg #[.string ⟨#[104,116,109,108]⟩,.string ⟨#[]⟩,.slice a9 1 c9,.slice (some ⟨p3,0,none⟩) 2 2],.int .i64 (0)]) (by simp [results,Tryz.results16,go_sem,r0,r1,r2,r3]) rfl (by rw [HPF.out,H0.out];exact jT.of Bz.out (by simp) (fun _ va vk e=>by
      simp only [Value.agg.injEq,Array.mk.injEq,List.cons.injEq,and_true] at e;obtain ⟨-,-,rfl,rfl⟩:=e;exact HX9.out))
    ·have q2:((EB:Int) != 0)=true:=by rw [bne_iff_ne];omega
     have Ww:=hid (show T9 me l title lang=mV by rw [ZQ.out,if_neg (by rw [HEB.out];exact hB0)]);obtain ⟨x0,x1,x2,x3,xf⟩:=pY (K1.out.below B3.out);obtain ⟨w9,bM⟩:∃ w9,w9=four w3 (S+1) (.string ⟨#[]⟩) (.string ⟨#[]⟩) (.slice none 0 0) (.slice none 0 0):=⟨_,rfl⟩;have hf:=fE ⟨#[]⟩ ⟨#[]⟩ [] [] Da.out Z0.out B0.out K1.out B3.out ⟨Rd.aD _ _ _,Rd.aD _ _ _⟩;rw [<- bM] at hf;have iZ:=hid hf.1;have Bz:=hid hf.2;clear hf;have hw8:=bM;simp only [four] at hw8;clear bM;go_wp2;rw [<- hw8];have r0:=iZ.out.cell 0 _ rfl;have r1:=iZ.out.cell 1 _ rfl;have r2:=iZ.out.cell 2 _ rfl;have r3:=iZ.out.cell 3 _ rfl;exact bodyPost_ret (v:=.tuple #[.agg #[.string ⟨#[]⟩,.string ⟨#[]⟩,.slice none 0 0,.slice none 0 0],.int .i64 (EB)]) (by simp [results,Tryz.results16,go_sem,r0,r1,r2,r3]) rfl (by rw [Ww.out,HEB.out];exact jT.of Bz.out (by simp) (fun h=>absurd h hB0))
 ·have q1:((E0:Int) != 0)=true:=by rw [bne_iff_ne];omega
  have HE9:=hid (show EE=E0 by rw [Ym.out,if_pos h0]);have Ww:=hid (show T9 me l title lang=mV by rw [ZQ.out,if_neg (by rw [HE9.out];exact h0)]);obtain ⟨x0,x1,x2,x3,xf⟩:=pY (K1.out.below B1.out);obtain ⟨w9,bM⟩:∃ w9,w9=four w1 (S+1) (.string ⟨#[]⟩) (.string ⟨#[]⟩) (.slice none 0 0) (.slice none 0 0):=⟨_,rfl⟩;have hf:=fE ⟨#[]⟩ ⟨#[]⟩ [] [] Da.out Z0.out B0.out K1.out B1.out ⟨Rd.aD _ _ _,Rd.aD _ _ _⟩;rw [<- bM] at hf;have iZ:=hid hf.1;have Bz:=hid hf.2;clear hf;have hw8:=bM;simp only [four] at hw8;clear bM;go_wp2;rw [<- hw8];have r0:=iZ.out.cell 0 _ rfl;have r1:=iZ.out.cell 1 _ rfl;have r2:=iZ.out.cell 2 _ rfl;have r3:=iZ.out.cell 3 _ rfl;exact bodyPost_ret (v:=.tuple #[.agg #[.string ⟨#[]⟩,.string ⟨#[]⟩,.slice none 0 0,.slice none 0 0],.int .i64 (E0)]) (by simp [results,Tryz.results16,go_sem,r0,r1,r2,r3]) rfl (by rw [Ww.out,HE9.out];exact jT.of Bz.out (by simp) (fun h=>absurd h h0))
open Go.RowKit
end Go.Proofs.YtkfnkeflalcphaaGreatDoor

