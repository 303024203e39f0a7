/- Contracts of html.Line and publisherref34.Line. Plain part: the errors and the nodes of Blocks and Page; the small case of layer 34. What the statements of layer 34 share: text, same, has; Small at a document with one block that has a line only. Plain part: the notes of a well-formed document: what the walks ask of their blocks. Contract of html.Blocks: the nodes of blocks, with their notes behind them, or the error. Plain part: how many values of an attribute the nodes of a document have; the anchors of its page. -/
import Derived.Test.YtclikfjalmcoaaaGreatDoorKRpF
import Derived.Test.YtclikfjalmcoaaaGreatDoorKHtY
set_option maxHeartbeats 8000000
set_option maxRecDepth 100000
namespace Go.Proofs.YtclikfjalmcoaaaGreatDoor
open List renaming setIfInBounds_toArray->je3,set_cons_zero->je4,set_cons_succ->je5,length_append->jeq,length_map->jex,length_cons->jez,append_nil->jh6
open Go.RowKit.Below renaming refl->je7
open Nat renaming le_refl->je8,le_trans->je9,zero_le->jf3
open Go.World renaming size_alloc->jf5
open Go renaming World->jh9
open Go.RowKit renaming Below->jhj
open Go.RowKit
set_option linter.unusedVariables false
set_option linter.unusedSimpArgs false
def SA (l:List aj):Nat:=if uR l≠0 then uR l else if nC l=true then 5 else 0
def Vv (l:List aj):List Nd:=if SA l=0 then iL l else []
def bI (w:jh9) (E:Nat) (L:List Nd) (e:Ending) (w':jh9):Prop:=
 ∃ rows v,e=.returned (.tuple #[v,.int .i64 (E:Int)])/\aI 43 4 (fun _=>False) w'.heap.size w (L.map Nd.d) rows v w'
theorem bI.nil {w w':jh9} {E:Nat} {L:List Nd} (hL:L=[]) (h:jhj w.heap.size w w'):bI w E L (.returned (.tuple #[.slice none 0 0,.int .i64 (E:Int)])) w':=by subst hL;exact ⟨[],_,rfl,((aI.nil _ _ _ w).below h).top⟩
def P8 (l:List aj):ah:=.mk 1 0 ⟨#[]⟩ ⟨#[]⟩ ⟨#[]⟩ ⟨#[]⟩ ⟨⟨#[]⟩,[],[]⟩ l []
theorem Cr (l:List aj):ah.aL [P8 l]=aj.aX l:=by rw [ah.aL,ah.aL,jh6,P8,ah.inls,ah.aL,jh6]
theorem Gb (l:List aj) (v:Value) (w:jh9) (hrd:Rd (·<w.heap.size) w (bD l) [v]) (hsm:aj.ay l) (hsz:aj.aS l<=900000) : Calls Tryz.prog 17 #[v] w (bI w (SA l) (Vv l)):=by
 obtain ⟨a,cap,hv,-⟩:=Rd.aC hrd;obtain rfl:v=.slice a l.length cap:=by simpa using hv
 clear hv;have LC:=Lib.hid (zB l a cap w hsm hrd);have Wp:=Lib.hid hrd;have iR:=Lib.hid hsm;have hee:SA l=if uR l≠0 then uR l else if nC l=true then 5 else 0:=rfl
 have hnn:Vv l=if SA l=0 then iL l else []:=rfl
 obtain ⟨E0,hE0⟩:∃ E0,E0=uR l:=⟨_,rfl⟩;obtain ⟨EE,I6⟩:∃ EE,EE=SA l:=⟨_,rfl⟩;obtain ⟨NN,I7⟩:∃ NN,NN=Vv l:=⟨_,rfl⟩;rw [<- hE0] at LC hee;rw [<- I6] at hee hnn;rw [<- I7] at hnn;rw [<- I6,<- I7];have Nq:=Lib.hid hee;have SB:=Lib.hid hnn;have HE0:=Lib.hid hE0;clear hrd hsm hee hnn hE0 I6 I7;go_enter Tryz.func17,Tryz.ntmps17;go_wp2_with fail
 (with_reducible refine LC.out.mono ?_)
 rintro e w1 ⟨rfl,b1⟩;have B1:=Lib.hid b1;have hz1:=b1.size;clear b1 LC;by_cases h0:E0=0
 ·have q1:((E0:Int) != 0)=false:=by rw [h0];rfl
  have Vo:Hid (uR l=0):=by show _=_;rw [<- HE0.out,h0]
  have EN:Hid (EE=if nC l=true then 5 else 0):=by show _=_;rw [Nq.out,if_neg (by simp [h0])]
  obtain ⟨wL,Yl⟩:∃ wL,wL=w1.alloc (.cells #[.int .i64 1,.int .i64 0,.string ⟨#[]⟩,.string ⟨#[]⟩,.string ⟨#[]⟩,.string ⟨#[]⟩,.string ⟨#[]⟩,.slice none 0 0,.slice none 0 0,.slice a l.length cap,.slice none 0 0] 30):=⟨_,rfl⟩;have bL:jhj w1.heap.size w1 wL:=by rw [Yl];exact (je7 _ _).alloc (je8 _) _
  have rL:Rd (·<wL.heap.size) wL (nR [P8 l]) [.slice (some ⟨w1.heap.size,0,none⟩) 1 1]:=by
   rw [Yl];have h:=aI.one (T:=30) (k:=11) (w:=w1) (d:=(P8 []).d) (r:=[.int .i64 1,.int .i64 0,.string ⟨#[]⟩,.string ⟨#[]⟩,.string ⟨#[]⟩,.string ⟨#[]⟩,.string ⟨#[]⟩,.slice none 0 0,.slice none 0 0,.slice none 0 0,.slice none 0 0]) rfl (ah.gI 1 0 ⟨#[]⟩ ⟨#[]⟩ ⟨#[]⟩ ⟨#[]⟩ (a:=⟨⟨#[]⟩,[],[]⟩) ⟨⟨Rd.aB _ _ _,Rd.aB _ _ _⟩,Rd.aB _ _ _,Rd.aB _ _ _⟩);have hb:Rd (·<(w1.alloc (.cells #[.int .i64 1,.int .i64 0,.string ⟨#[]⟩,.string ⟨#[]⟩,.string ⟨#[]⟩,.string ⟨#[]⟩,.string ⟨#[]⟩,.slice none 0 0,.slice none 0 0,.slice a l.length cap,.slice none 0 0] 30)).heap.size) (w1.alloc (.cells #[.int .i64 1,.int .i64 0,.string ⟨#[]⟩,.string ⟨#[]⟩,.string ⟨#[]⟩,.string ⟨#[]⟩,.string ⟨#[]⟩,.slice none 0 0,.slice none 0 0,.slice a l.length cap,.slice none 0 0] 30)) (P8 l).d [.int .i64 1,.int .i64 0,.string ⟨#[]⟩,.string ⟨#[]⟩,.string ⟨#[]⟩,.string ⟨#[]⟩,.string ⟨#[]⟩,.slice none 0 0,.slice none 0 0,.slice a l.length cap,.slice none 0 0]:=
    ah.gI 1 0 ⟨#[]⟩ ⟨#[]⟩ ⟨#[]⟩ ⟨#[]⟩ (a:=⟨⟨#[]⟩,[],[]⟩) ⟨⟨Rd.aB _ _ _,Rd.aB _ _ _⟩,(Wp.out.up B1.out).up ((je7 _ _).alloc (je8 _) _),Rd.aB _ _ _⟩
   refine Rd.ig (rows:=[_]) (B:=w1.heap.size) (e:=30) ⟨rfl,.inr ⟨w1.heap.size,1,_,rfl,je8 _,heap_alloc_new w1 _,by simp,by unfold maxLen;simp,rfl,rfl⟩⟩ (aO.one hb) (by simp) (fun g hg=>?_);have e1:w1.heap.size=g:=by simpa [Value.ownBlock] using hg
   rw [jf5];omega
  have IC:=qY [P8 l] (.slice (some ⟨w1.heap.size,0,none⟩) 1 1) wL rL (by rw [ah.pO,ah.pO,P8,ah.bd,ah.pO];exact ⟨⟨by simp,by simp,aj.jD l iR.out,by omega,trivial⟩,trivial⟩)
   (by rw [ah.aS,ah.aS,P8,ah.sz,ah.aS];omega) (by rw [Cr,aj.dI];omega)
  rw [Cr] at IC;have IL:=Lib.hid IC;have BL:=Lib.hid (aU B1.out bL);clear IC rL bL h0;go_upto_region 4 with (fail)
  have ja4:=Lib.hid Yl;clear Yl;go_wp2_with fail
  rw [<- ja4.out]
  (with_reducible refine IL.out.mono ?_)
  rintro e w2 ⟨v2,aW,rfl,hown2,Gn,oO,b2⟩;have Ce:Rd (fun _=>True) w2 (bD (aj.aX l)) [v2]:=Rd.ig (by rw [jex];exact hown2) Gn oO (fun _ _=>trivial);have UC:=tq (aj.aX l) _ v2 w2 Ce;have hue:(aj.aX l).any iB=nC l:=rfl;rw [hue] at UC;have UL:=Lib.hid UC;have B2:=Lib.hid (aU BL.out b2);clear hown2 Gn oO b2 Ce UC IL hue;go_wp2_with fail
  (with_reducible refine UL.out.mono ?_)
  rintro e w3 ⟨rfl,b3⟩;have B3:=Lib.hid (aU B2.out b3);obtain ⟨u,hu⟩:∃ u,u=nC l:=⟨_,rfl⟩;rw [<- hu] at EN;rw [<- hu];have HU:=Lib.hid hu;clear b3 UL hu;cases u with
  | true=>
   have HF:Hid (bI w EE NN (.returned (.tuple #[.slice none 0 0,.int .i64 5])) w3):=by
    have h5:EE=5:=by rw [EN.out];rfl
    rw [h5];exact bI.nil (by rw [SB.out,h5];rfl) B3.out
   go_wp2
   go_ret2
   exact HF.out
  | false=>
   have HC:=Lib.hid (qc 900000 l (.slice a l.length cap) w3 hsz (by omega) (Wp.out.up B3.out) iR.out (zl l Vo.out HU.out.symm));go_wp2_with fail
   (with_reducible refine HC.out.mono ?_)
   rintro e w4 ⟨dw,v4,rfl,hrow4⟩;have HF:Hid (bI w EE NN (.returned (.tuple #[v4,.int .i64 0])) w4):=by
    have h5:EE=0:=by rw [EN.out];rfl
    have hN:NN=iL l:=by rw [SB.out,h5];rfl
    rw [h5,hN];exact ⟨dw,v4,rfl,hrow4.qm B3.out.size (aU B3.out hrow4.aJ)⟩
   clear hrow4 HC;go_wp2
   go_ret2
   exact HF.out
 ·have q1:((E0:Int) != 0)=true:=by rw [bne_iff_ne];omega
  have HF:Hid (bI w EE NN (.returned (.tuple #[.slice none 0 0,.int .i64 (E0:Int)])) w1):=by
   have h5:EE=E0:=by rw [Nq.out,if_pos (by simpa using h0)]
   rw [h5];exact bI.nil (by rw [SB.out,h5,if_neg h0]) B1.out
  clear h0;go_wp2
  go_ret2
  exact HF.out
def Dh (l:List ah):Nat:=if ah.aQ oL 0 0 l≠0 then ah.aQ oL 0 0 l else if (ah.aL l).any iB=true then 5 else 0
def Pv (l:List ah):List Nd:=if Dh l=0 then dK l else []
def Mw (me:List Pr) (l:List ah) (title lang:ByteArray):Nat:=
 if gY oL me l≠0 then gY oL me l else if gU title=false then 17 else if je lang=false then 6 else if (ah.aL l).any iB=true then 5 else 0
def uD:Nd:=.mk ⟨#[]⟩ ⟨#[]⟩ [] []
def Eh (me:List Pr) (l:List ah) (title lang:ByteArray):Nd:=if Mw me l title lang=0 then mZ title lang (dK l) else uD
theorem Kj {me:List Pr} {l:List ah} (h:gY oL me l=0):ah.aQ oL 0 0 l=0:=by
 unfold gY at h;split at h
 ·cases h
 ·split at h
  ·rename_i h1;exact absurd h h1
  ·exact h
theorem Ct {l:List ah} (h:Dh l=0):ah.aQ oL 0 0 l=0/\(ah.aL l).any iB=false:=by
 unfold Dh at h;split at h
 ·rename_i h1;exact absurd h h1
 ·rename_i h1
  split at h
  ·cases h
  ·rename_i h2
   exact ⟨Classical.not_not.1 h1,by simpa using h2⟩
theorem Ls {me:List Pr} {l:List ah} {title lang:ByteArray} (h:Mw me l title lang=0):gY oL me l=0/\gU title=true/\je lang=true/\(ah.aL l).any iB=false:=by
 unfold Mw at h;split at h
 ·rename_i h1;exact absurd h h1
 ·rename_i h1
  split at h
  ·cases h
  ·rename_i h2
   split at h
   ·cases h
   ·rename_i h3
    split at h
    ·cases h
    ·rename_i h4
     exact ⟨Classical.not_not.1 h1,by simpa using h2,by simpa using h3,by simpa using h4⟩
theorem H7 (s:ByteArray):(((At.err ⟨⟨#[]⟩,[],[⟨⟨#[116,105,116,108,101]⟩,s⟩]⟩:Nat):Int)==0)=gU s:=by
 have h1:je (⟨#[116,105,116,108,101]⟩:ByteArray)=true:=by decide +kernel
 have h2:dn [] [⟨⟨#[116,105,116,108,101]⟩,s⟩]=if gU s=false then 17 else 0:=by
  rw [dn,h1];have h0:hasB [] (⟨#[116,105,116,108,101]⟩:ByteArray)=false:=rfl;rw [if_neg (by decide),h0];split
  ·rfl
  ·rfl
 cases hs:gU s with
 | true=>
  rw [hs] at h2;have h3:At.err ⟨⟨#[]⟩,[],[⟨⟨#[116,105,116,108,101]⟩,s⟩]⟩=0:=by unfold At.err;rw [h2];rfl
  rw [h3];rfl
 | false=>
  rw [hs] at h2;have h3:At.err ⟨⟨#[]⟩,[],[⟨⟨#[116,105,116,108,101]⟩,s⟩]⟩=17:=by unfold At.err;rw [h2];rfl
  rw [h3];rfl
theorem Ol {l:List ah} (h:Dh l=0):ah.qP l:=by obtain ⟨h1,h2⟩:=Ct h;exact ah.mg oL l 0 0 (by decide) (by decide) h1 (by rw [ah.mh];exact h2)
def Lu:At:=⟨⟨#[]⟩,[],[]⟩
def Wq (t:ByteArray):aj:=.mk 1 t ⟨#[]⟩ ⟨#[]⟩ Lu [] [] []
def Gp:aj:=.mk 2 ⟨#[]⟩ ⟨#[]⟩ ⟨#[]⟩ Lu [] [] []
def y8:aj:=.mk 14 ⟨#[97]⟩ ⟨#[]⟩ ⟨#[]⟩ Lu [] [] []
def eL:List aj:=[Wq ⟨#[97]⟩,Gp,Wq ⟨#[98]⟩]
def Ca:ah:=.mk 5 0 ⟨#[]⟩ ⟨#[]⟩ ⟨#[]⟩ ⟨#[]⟩ Lu [] []
def Gc:ah:=.mk 14 0 ⟨#[120]⟩ ⟨#[]⟩ ⟨#[]⟩ ⟨#[]⟩ Lu [] []
def uE:ah:=.mk 6 0 ⟨#[]⟩ ⟨#[]⟩ ⟨#[]⟩ ⟨#[]⟩ Lu [] [Gc]
theorem Zr:SA eL=0:=by decide +kernel
theorem Zt:Vv eL=[yL ⟨#[97,32,98]⟩]:=by rfl
theorem Zu:Dh [Ca]=0:=by decide +kernel
theorem Zv:Pv [Ca]=[aN Uv [] []]:=by rfl
theorem Zw:Dh [uE]=0:=by decide +kernel
theorem Zx:Pv [uE]=[aN tC [] [],aN gN [⟨eP,iV⟩] [aN jM [⟨eT,⟨#[110,111,116,101,45,120]⟩⟩,⟨eP,dx⟩] []]]:=by rfl
theorem Zy:Mw [] [] ⟨#[84]⟩ ⟨#[101,110]⟩=0:=by decide +kernel
theorem Zz:Eh [] [] ⟨#[84]⟩ ⟨#[101,110]⟩=aN P6 [⟨jC,⟨#[101,110]⟩⟩] [aN mK [] [aN iU [⟨zZ,fQ⟩] [],aN fA [] [yL ⟨#[84]⟩]],aN oK [] []]:=by rfl
theorem e_r:SA [y8]=5:=by decide +kernel
open Go.RowKit
def eC (t:ByteArray):List Value:=[.int .i64 1,.string t,.string ⟨#[]⟩,.string ⟨#[]⟩,.string ⟨#[]⟩,.slice none 0 0,.slice none 0 0,.slice none 0 0,.slice none 0 0,.slice none 0 0]
theorem RG (t:ByteArray) (w:jh9) : Calls Tryz.prog 46 #[.string t] w fun e w'=>e=.returned (.agg (eC t).toArray)/\jhj w.heap.size w w':=by
 obtain ⟨w0,hw0⟩:∃ w0,w0=w.alloc (.cells #[.int .i64 0,.string ⟨#[]⟩,.string ⟨#[]⟩,.string ⟨#[]⟩,.string ⟨#[]⟩,.slice none 0 0,.slice none 0 0,.slice none 0 0,.slice none 0 0,.slice none 0 0] 51):=⟨_,rfl⟩;have b0:jhj w.heap.size w w0:=by rw [hw0];exact (je7 _ _).alloc (je8 _) _
 have P0:PB w.heap.size [.int .i64 0,.string ⟨#[]⟩,.string ⟨#[]⟩,.string ⟨#[]⟩,.string ⟨#[]⟩,.slice none 0 0,.slice none 0 0,.slice none 0 0,.slice none 0 0,.slice none 0 0] w0:=by rw [hw0];exact heap_alloc_new w _
 have r0:=P0.cell 0 _ rfl;have r1:=P0.cell 1 _ rfl;have r2:=P0.cell 2 _ rfl;have r3:=P0.cell 3 _ rfl;have r4:=P0.cell 4 _ rfl;have r5:=P0.cell 5 _ rfl;have r6:=P0.cell 6 _ rfl;have r7:=P0.cell 7 _ rfl;have r8:=P0.cell 8 _ rfl;have r9:=P0.cell 9 _ rfl;have g0:=P0.free 0;have g1:=P0.free 1;have g2:=P0.free 2;have g3:=P0.free 3;have g4:=P0.free 4;have g5:=P0.free 5;have g6:=P0.free 6;have g7:=P0.free 7;have g8:=P0.free 8;have g9:=P0.free 9;have FB:=Lib.hid (fun u0 u1 u2 u3 u4 u5 u6 u7 u8 u9=>(((((((((b0.setCell (p:=⟨w.heap.size,0,none⟩) (je8 _) u0).setCell (p:=⟨w.heap.size,1,none⟩) (je8 _) u1).setCell (p:=⟨w.heap.size,2,none⟩) (je8 _) u2).setCell (p:=⟨w.heap.size,3,none⟩) (je8 _) u3).setCell (p:=⟨w.heap.size,4,none⟩) (je8 _) u4).setCell (p:=⟨w.heap.size,5,none⟩) (je8 _) u5).setCell (p:=⟨w.heap.size,6,none⟩) (je8 _) u6).setCell (p:=⟨w.heap.size,7,none⟩) (je8 _) u7).setCell (p:=⟨w.heap.size,8,none⟩) (je8 _) u8).setCell (p:=⟨w.heap.size,9,none⟩) (je8 _) u9);clear P0 b0;go_enter Tryz.func46,Tryz.ntmps46;go_upto_region 1 with (fail)
 rw [<- hw0];clear hw0;go_wp2;exact bodyPost_ret (v:=.agg (eC t).toArray) (by simp [eC,results,Tryz.results46,go_sem,r0,r1,r2,r3,r4,r5,r6,r7,r8,r9]) rfl ⟨rfl,FB.out _ _ _ _ _ _ _ _ _ _⟩
theorem Rd.Kk {ok:Nat->Prop} {w:jh9} {k:Nat} {l:List D} {rows:List (List Value)} {b cap:Nat} (hl:l.length<=cap) (hm:cap<=maxLen) (h:aO ok w l rows) (hk:∀ r∈rows,r.length=k) (hok:ok b) (hb:b<w.heap.size) (hc:∀ j u,rows.flatten[j]?=some u->w.cell? ⟨b,j,none⟩=some u):Rd ok w (.sl k l) [.slice (some ⟨b,0,none⟩) l.length cap]:=by unfold Rd;exact ⟨_,cap,rows,rfl,hl,hm,h,hk,.inr ⟨b,0,rfl,hok,hb,fun j u hu=>by rw [Nat.zero_add];exact hc j u hu⟩⟩
theorem zC (ok:Nat->Prop) (w:jh9):AtR ok w Lu (.slice none 0 0) (.slice none 0 0):=⟨Rd.aB _ _ _,Rd.aB _ _ _⟩
theorem Kl (ok:Nat->Prop) (w:jh9) (t:ByteArray):Rd ok w (Wq t).d (eC t):=aj.gI 1 t ⟨#[]⟩ ⟨#[]⟩ ⟨zC _ _,Rd.aB _ _ _,Rd.aB _ _ _,Rd.aB _ _ _⟩
theorem Nr (ok:Nat->Prop) (w:jh9):Rd ok w Gp.d [.int .i64 2,.string ⟨#[]⟩,.string ⟨#[]⟩,.string ⟨#[]⟩,.string ⟨#[]⟩,.slice none 0 0,.slice none 0 0,.slice none 0 0,.slice none 0 0,.slice none 0 0]:=aj.gI 2 ⟨#[]⟩ ⟨#[]⟩ ⟨#[]⟩ ⟨zC _ _,Rd.aB _ _ _,Rd.aB _ _ _,Rd.aB _ _ _⟩
theorem RO (ok:Nat->Prop) (w:jh9):Rd ok w y8.d [.int .i64 14,.string ⟨#[97]⟩,.string ⟨#[]⟩,.string ⟨#[]⟩,.string ⟨#[]⟩,.slice none 0 0,.slice none 0 0,.slice none 0 0,.slice none 0 0,.slice none 0 0]:=aj.gI 14 ⟨#[97]⟩ ⟨#[]⟩ ⟨#[]⟩ ⟨zC _ _,Rd.aB _ _ _,Rd.aB _ _ _,Rd.aB _ _ _⟩
theorem jT:Lu.short:=⟨by decide,by decide,by decide,fun _ h=>(by cases h),fun _ h=>(by cases h)⟩
theorem xS (t:ByteArray) (h:t.size<=300):(Wq t).small:=by unfold Wq aj.small aj.ay;exact ⟨h,by decide,by decide,jT,by decide,by decide,fun _ h=>(by cases h),fun _ h=>(by cases h),trivial⟩
theorem Cu:Gp.small:=by unfold Gp aj.small aj.ay;exact ⟨by decide,by decide,by decide,jT,by decide,by decide,fun _ h=>(by cases h),fun _ h=>(by cases h),trivial⟩
theorem EO:y8.small:=by unfold y8 aj.small aj.ay;exact ⟨by decide,by decide,by decide,jT,by decide,by decide,fun _ h=>(by cases h),fun _ h=>(by cases h),trivial⟩
theorem Km:aj.ay eL:=by unfold eL aj.ay aj.ay aj.ay aj.ay;exact ⟨xS _ (by decide),Cu,xS _ (by decide),trivial⟩
theorem Kn:aj.ay [y8]:=by unfold aj.ay aj.ay;exact ⟨EO,trivial⟩
theorem qW:ah.ay [Ca]:=by
 have h1:=jT;have h3:aj.aS []<=120:=by decide +kernel
 have h4:(⟨#[]⟩:ByteArray).size<=300:=by decide
 simp [Ca,ah.ay,ah.small,h1,h3,h4,aj.ay]
theorem oM:ah.ay [uE]:=by
 have h1:=jT;have h3:aj.aS []<=120:=by decide +kernel
 have h4:(⟨#[]⟩:ByteArray).size<=300:=by decide
 have h5:(⟨#[120]⟩:ByteArray).size<=300:=by decide
 simp [uE,Gc,ah.ay,ah.small,h1,h3,h4,h5,aj.ay]
def P9 (k:Int) (i:ByteArray) (vk:Value):List Value:=[.int .i64 k,.int .i64 0,.string i,.string ⟨#[]⟩,.string ⟨#[]⟩,.string ⟨#[]⟩,.string ⟨#[]⟩,.slice none 0 0,.slice none 0 0,.slice none 0 0,vk]
theorem SG {ok:Nat->Prop} {w:jh9} (k:Int) (i:ByteArray) (ks:List ah) (vk:Value) (h:Rd ok w (nR ks) [vk]):Rd ok w (ah.mk k 0 i ⟨#[]⟩ ⟨#[]⟩ ⟨#[]⟩ Lu [] ks).d (P9 k i vk):=ah.gI k 0 i ⟨#[]⟩ ⟨#[]⟩ ⟨#[]⟩ ⟨zC _ _,Rd.aB _ _ _,h⟩
theorem Ei (k:Int) (i:ByteArray) (ks:List ah) (vk:Value) (w:jh9) (h:Rd (·<w.heap.size) w (nR ks) [vk]) : Rd (·<(w.alloc (.cells (P9 k i vk).toArray 30)).heap.size) (w.alloc (.cells (P9 k i vk).toArray 30)) (nR [.mk k 0 i ⟨#[]⟩ ⟨#[]⟩ ⟨#[]⟩ Lu [] ks]) [.slice (some ⟨w.heap.size,0,none⟩) 1 1]:=by have hb:jhj w.heap.size w (w.alloc (.cells (P9 k i vk).toArray 30)):=(je7 _ _).alloc (je8 _) _;have kk:CB 30 w.heap.size (P9 k i vk) (w.alloc (.cells (P9 k i vk).toArray 30)):=CB.new _ _ w;exact Rd.Kk (l:=[ah.mk k 0 i ⟨#[]⟩ ⟨#[]⟩ ⟨#[]⟩ Lu [] ks].map ah.d) (rows:=[P9 k i vk]) (by simp) (by unfold maxLen;decide) (aO.one (SG k i ks vk (h.up hb))) (by simp [P9]) kk.lt kk.lt (fun j u hu=>kk.cell j u (by simpa using hu))
mutual
theorem ah.Om (cl:ByteArray->Bool):∀ (b:ah) (par:Int) (dp:Nat),b.err cl par dp=0->b.bD.any iB=false->∀ x∈b.each,(∃ d',ah.aQ cl x.lH d' x.kids=0)/\(ah.dh x.kids).any iB=false/\ah.aS x.kids<=b.sz
 | .mk k lv i t d ti a li ks,par,dp,h,hu,x,hx=>by
  obtain ⟨h2,hbf,h3⟩:=jO cl h;rw [ah.bD,List.any_append,Bool.or_eq_false_iff] at hu;rw [ah.each] at hx;rw [ah.sz];rcases List.mem_cons.1 hx with rfl | hx
  ·exact ⟨⟨dp+1,h3⟩,hu.2,by show ah.aS ks<=_;omega⟩
  ·obtain ⟨g1,g2,g3⟩:=ah.vD cl ks k (dp+1) h3 hu.2 x hx;exact ⟨g1,g2,by omega⟩
theorem ah.vD (cl:ByteArray->Bool):∀ (l:List ah) (par:Int) (dp:Nat),ah.aQ cl par dp l=0->(ah.dh l).any iB=false->∀ x∈ah.aF l,(∃ d',ah.aQ cl x.lH d' x.kids=0)/\(ah.dh x.kids).any iB=false/\ah.aS x.kids<=ah.aS l
 | [],_,_,_,_,x,hx=>by rw [ah.aF] at hx;cases hx
 | y::l,par,dp,h,hu,x,hx=>by
  rw [ah.aQ] at h;rw [ah.dh,List.any_append,Bool.or_eq_false_iff] at hu;rw [ah.aF] at hx;rw [ah.aS];by_cases h1:y.err cl par dp≠0
  ·rw [if_pos h1] at h;exact absurd h h1
  ·rw [if_neg h1] at h;rcases List.mem_append.1 hx with hx | hx
   ·obtain ⟨g1,g2,g3⟩:=ah.Om cl y par dp (Classical.not_not.1 h1) hu.1 x hx;exact ⟨g1,g2,by omega⟩
   ·obtain ⟨g1,g2,g3⟩:=ah.vD cl l par dp h hu.2 x hx;exact ⟨g1,g2,by omega⟩
end
theorem Lv (l:List ah) (h:Dh l=0) (hsm:ah.ay l) (hz:ah.aS l<=900000):ah.jN l/\∀ x∈ah.aF l,x.lH=14->ah.jN x.kids/\ah.aS x.kids<=900000:=by obtain ⟨h1,h2⟩:=Ct h;have h3:=Ol h;refine ⟨ah.oz oL l 0 0 h1 h3 hsm hz,fun x hx hk=>?_⟩;obtain ⟨⟨d',g1⟩,g2,g3⟩:=ah.vD oL l 0 0 h1 (by rw [ah.mh];exact h2) x hx;rw [hk] at g1;have g4:=(mX (ah.gP l hsm x hx)).1;have g5:=ah.mg oL x.kids 14 d' (by decide) (by decide) g1 g2;exact ⟨ah.oz oL _ 14 d' g1 g5 g4 (by omega),by omega⟩
mutual
theorem Lx:∀ (b:ah),b.each.length=b.sz
 | .mk k lv i t d ti a li ks=>by rw [ah.each,ah.sz,jez,l7 ks];omega
theorem l7:∀ (l:List ah),(ah.aF l).length=ah.aS l
 | []=>by rw [ah.aF,ah.aS];rfl
 | x::l=>by rw [ah.aF,ah.aS,jeq,Lx x,l7 l]
end
theorem uG {x:ah} (h:x.small):x.Wh.size<=300:=by obtain ⟨k,lv,i,t,d,ti,a,li,ks⟩:=x;rw [ah.small] at h;exact h.1
theorem nJ:∀ (l:List ah),(l.flatMap fT).length<=l.length
 | []=>by simp
 | x::l=>by
  have h:=nJ l;rw [List.flatMap_cons,jeq,jez];have h2:(fT x).length<=1:=by obtain ⟨k,lv,i,t,d,ti,a,li,ks⟩:=x;unfold fT;dsimp only;split<;>simp
  omega
open Go.RowKit Go.Shelf
attribute [local go_sem] Oper.semAt_some
theorem rR.ok {S Bb N0:Nat} (h1:S<=Bb) (h2:Bb<N0):Li S (rR Bb N0) where
 below h:=h.below h1 h2
 TV h hb:=(h.Vh _ _ _ _ hb (by decide) (by decide)).trans hb
 SH h hb:=(h.Vh _ _ _ _ hb (by decide) (by decide)).trans hb
theorem Ru.xU {Bb N0:Nat} {L:List Nd} {W W':jh9} {row:Option Nat} (h:Ru Bb N0 L W) (hB:Bb<N0) (hg:W.grownBy W' row) (hr:∀ r,row=some r->N0<=r/\∃ o:Obj,W.heap[r]?=some o/\o.isCells=false):Ru Bb N0 L W':=by obtain ⟨wB,rows,v,h1,h2,h3⟩:=h;refine ⟨wB,rows,v,h1,(h2.xU hg (fun r e=>⟨by have:=(hr r e).1;omega,(hr r e).2⟩)).up hg.size (je8 _),?_⟩;exact (hg.block Bb h3.lt (fun e=>by have:=(hr Bb e.symm).1;omega)).trans h3
theorem EP {c:Code} {Q:Exit->Act->jh9->Prop} {a:Act} {w:jh9} (h:c.wp Tryz.prog (fun e a w=>(∀ x,e≠Exit.panic x)/\Q e a w) a w):c.wp Tryz.prog Q a w:=Code.wp_mono (fun _ _ _ h=>h.2) h
def Oo (b:ah):Prop:=b.Wh.size<=300/\(b.lH=14->ah.jN b.kids/\ah.aS b.kids<=900000)
def BV.cs (x:BV):List Value:=[.int .i64 x.kd,.int .i64 x.lv,.string x.i,.string x.t,.string x.d,.string x.ti,.string x.at_.id,x.vc,x.vp,x.vl,x.vk]
def Ws (Bb:Nat):Value:=.func (.func 56) #[] #[.pointer (some ⟨Bb,0,none⟩)]
def Qa (Bb Bf Bl:Nat) (s o v2:Value) (E:Int) (x:BV) (Bx:Nat):Act:={ tmps:=#[s,undef,.slice none 0 0,.int .i64 0,.int .i64 E,.pointer (some ⟨Bb,0,none⟩),o,.pointer (some ⟨Bf,0,none⟩),.pointer (some ⟨Bx,0,none⟩),s,.int .i64 E,.int .i64 E,.bool false,undef,s,v2,.bool false,s,o,Ws Bb,s,.func (.func 107) #[] #[.pointer (some ⟨Bl,0,none⟩)],x.enc,undef,undef,undef,undef,undef,undef,undef,undef,undef,undef,undef,undef,undef,undef,undef,undef,undef,undef,undef,undef,undef],defers:=[] }
def Ym (N0 Bb Bf Bl:Nat) (s o v2:Value) (E:Int) (x:BV) (a':Act) (W:jh9):Prop:=∃ Bx,N0<=Bx/\CB 30 Bx x.cs W/\a'=Qa Bb Bf Bl s o v2 E x Bx
theorem Ym.own {N0 Bb Bf Bl B:Nat} {s o v2:Value} {E:Int} {x:BV} {a':Act}:OwnFrom B (fun (_:Unit) W=>Ym N0 Bb Bf Bl s o v2 E x a' W):=fun _ W W' row ⟨Bx,h1,h2,h3⟩ hg hr=>
 ⟨Bx,h1,(hg.block Bx h2.lt (fun e=>by
  obtain ⟨_,o,k1,k2⟩:=hr Bx e.symm;unfold CB at h2;rw [h2] at k1;cases k1;cases k2)).trans h2,h3⟩
def Qb (Bb N0 S:Nat) (w W0:jh9) (pre:List (BW S w Oo)) (W:jh9):Prop:=Ru Bb N0 ((su pre).flatMap fT) W/\rR Bb N0 W0 W
theorem Qb.own {Bb N0 S:Nat} {w W0:jh9} (hB:Bb<N0) (hz:N0=W0.heap.size):OwnFrom N0 (Qb Bb N0 S w W0):=fun s W W' row h hg hr=>
 ⟨h.1.xU hB hg hr,h.2.trans (rR.grown hg (by have:=h.2.size;omega) hr)⟩
theorem LA {fn:Func} {R:Ending->jh9->Prop} {a:Act} {w:jh9} {v:Value} (hd:a.defers=[]) (hr:(results fn a.tmps).run Tryz.prog w=.ok v w) (h:R (.returned v) w):bodyPostM Fence.wide 3 Tryz.prog fn R .ret a w:=by show LeavesInM _ _ _ _ _ _ a.defers _ _;rw [hd];unfold LeavesInM LeavesIn;exact ⟨v,hr,h⟩
theorem LB {n:Nat} {fn:Func} {R:Ending->jh9->Prop} {a:Act} {w:jh9} {v:Value} {D:Nat} (hd:a.defers=[{ target:=.collected D,args:=#[] }]) (hf:w.heap[D]?=some (.deferred (some []))) (hr:∀ w',(results fn a.tmps).run Tryz.prog w'=.ok v w') (h:R (.returned v) (w.putObj D (.deferred none))):bodyPostM Fence.wide n Tryz.prog fn R .ret a w:=by show LeavesInM _ _ _ _ _ _ a.defers _ _;rw [hd];refine ⟨by simp,.inl ⟨D,_,rfl,run_takeDeferred hf,?_⟩⟩;exact ⟨v,hr _,h⟩
theorem bI.Wt {w W:jh9} {E:Nat} {L:List Nd} {v:Value} {D:Nat} (h:bI w E L (.returned v) W) (hD:w.heap.size<=D) (hf:W.heap[D]?=some (.deferred (some []))):bI w E L (.returned v) (W.putObj D (.deferred none)):=by obtain ⟨rows,v',he,hr⟩:=h;have hg:=grownBy_putObj' W D (.deferred none);exact ⟨rows,v',he,(hr.xU hg (fun r e=>by cases e;exact ⟨hD,_,hf,rfl⟩)).up hg.size (je8 _)⟩
theorem yZ (l:List ah) (v:Value) (w:jh9) (hrd:Rd (·<w.heap.size) w (nR l) [v]) (hsm:ah.ay l) (hsz:ah.aS l<=900000) (hil:(ah.aL l).length<=1000) (hbd:ah.pO l) (ht:PT w) : Calls Tryz.prog 20 #[v] w (bI w (Dh l) (Pv l)):=by
 obtain ⟨iN,FJ,oq,ou,ow⟩:=info_parts mW;obtain ⟨a,cap,hv,-⟩:=Rd.aC hrd;obtain ⟨nl,hnl⟩:∃ nl,nl=l.length:=⟨_,rfl⟩;obtain rfl:v=.slice a nl cap:=by rw [hnl];simpa using hv
 have LC:=qM oL l a cap w hsm (fun _=>BZ) (by rw [<- hnl];exact hrd);rw [<- hnl] at LC;have kD:=Lib.hid LC;clear hv LC hnl;obtain ⟨S,hS⟩:∃ S,S=w.heap.size:=⟨_,rfl⟩;have Wp:=Lib.hid hrd;have iR:=Lib.hid hsm;have oo:Hid (∀ W:jh9,jhj S w W->PT W):=fun W hW=>ht.below (by rw [<- hS];exact hW)
 have hee:Dh l=if ah.aQ oL 0 0 l≠0 then ah.aQ oL 0 0 l else if (ah.aL l).any iB=true then 5 else 0:=rfl
 have hnn:Pv l=if Dh l=0 then dK l else []:=rfl
 have HW:=Lib.hid (fun h:Dh l=0=>Lv l h hsm hsz);have IC:Hid (∀ W:jh9,jhj S w W->Calls Tryz.prog 49 #[.slice a nl cap] W (fun e w'=>∃ v',e=.returned v'/\Rd (fun _=>True) w' (bD (ah.aL l)) [v']/\jhj W.heap.size W w')):=fun W hW=>by
  refine (qY l (.slice a nl cap) W (hrd.up (by rw [<- hS];exact hW)) hbd (by omega) (by omega)).mono ?_;rintro e w2 ⟨v2,aW,rfl,hown2,Gn,oO,b2⟩;exact ⟨v2,rfl,Rd.ig (by rw [jex];exact hown2) Gn oO (fun _ _=>trivial),b2⟩
 obtain ⟨E0,hE0⟩:∃ E0,E0=ah.aQ oL 0 0 l:=⟨_,rfl⟩;obtain ⟨EE,I6⟩:∃ EE,EE=Dh l:=⟨_,rfl⟩;obtain ⟨NN,I7⟩:∃ NN,NN=Pv l:=⟨_,rfl⟩;rw [<- hE0] at kD hee;rw [<- I6] at hee hnn HW;rw [<- I7] at hnn;rw [<- I6,<- I7];have Nq:=Lib.hid hee;have SB:=Lib.hid hnn;have HS:=Lib.hid hS;clear hrd hee hnn hE0 I6 I7 ht hS;refine (callsIn_wide (n:=3)).1 ?_;refine callsIn_of_wp_marks Tryz.func20 rfl trivial ?_ rfl;simp only [Tryz.ntmps20,List.size_toArray,jez,List.length_nil,Nat.reduceAdd,Nat.reduceSub,Array.replicate_succ,Array.replicate_zero,List.push_toArray,List.append_toArray,List.nil_append,List.cons_append];refine wpIn_wide.2 ?_;go_wp2_with fail
 (with_reducible refine kD.out.mono ?_)
 rintro e w1 ⟨rfl,b1⟩;have B1:Hid (jhj S w w1):=by rw [HS.out];exact b1
 clear b1 kD;by_cases h0:E0=0
 ·have q1:((E0:Int) != 0)=false:=by rw [h0];rfl
  have EN:Hid (EE=if (ah.aL l).any iB=true then 5 else 0):=by show _=_;rw [Nq.out,if_neg (by simp [h0])]
  have IL:=Lib.hid (IC.out w1 B1.out);clear h0;go_wp2_with fail
  (with_reducible refine IL.out.mono ?_)
  rintro e w2 ⟨v2,rfl,Ce,b2⟩;have UL:=Lib.hid (tq (ah.aL l) _ v2 w2 Ce);obtain ⟨a2,n2,c2,rfl⟩:=Rd.au Ce;have B2:=Lib.hid (B1.out.trans (b2.mono (by have:=B1.out.size;have:=HS.out;omega)));clear Ce b2 IL;go_wp2_with fail
  (with_reducible refine UL.out.mono ?_)
  rintro e w3 ⟨rfl,b3⟩;have B3:=Lib.hid (B2.out.trans (b3.mono (by have:=B2.out.size;have:=HS.out;omega)));obtain ⟨u,hu⟩:∃ u,u=(ah.aL l).any iB:=⟨_,rfl⟩;rw [<- hu] at EN;rw [<- hu];clear b3 UL hu;cases u with
  | true=>
   have HF:Hid (bI w EE NN (.returned (.tuple #[.slice none 0 0,.int .i64 5])) w3):=by
    have h5:EE=5:=by rw [EN.out];rfl
    rw [h5];exact bI.nil (by rw [SB.out,h5];rfl) (by rw [<- HS.out];exact B3.out)
   go_wp2;exact LA rfl (by simp [results,Tryz.results20,go_sem]) HF.out
  | false=>
   have hE:EE=0:=by rw [EN.out];rfl
   obtain ⟨hw1,hw3⟩:=HW.out hE;have PY:=Lib.hid (show NN=dK l by rw [SB.out,hE];rfl);have HE:=Lib.hid hE;have HWN:=Lib.hid (show ∀ b∈ah.aF l,Oo b from fun b hb=>⟨uG (ah.gP l iR.out b hb),fun hk=>hw3 b hb hk⟩);have HEL:=Lib.hid (show (ah.aF l).length<=900000 by rw [l7];exact hsz);have FZ:=Lib.hid (show (ah.aR l).length<=900000 from je9 (tJ l) (je9 (ah.gZ l) hsz));obtain ⟨Bb,hBb⟩:∃ Bb,Bb=w3.heap.size:=⟨_,rfl⟩;obtain ⟨w4,hw4⟩:∃ w4,w4=w3.alloc (.cells #[.slice none 0 0] 84):=⟨_,rfl⟩;have k4:aG Bb (.slice none 0 0) 84 w4:=by rw [hw4,hBb];exact aG.new _ _ _
   have b4:jhj S w w4:=by rw [hw4];exact B3.out.alloc (by have:=B3.out.size;have:=HS.out;omega) _
   have hSB:S<=Bb:=by have:=B3.out.size;have:=HS.out;omega
   have z4:w4.heap.size=Bb+1:=by rw [hw4,jf5,hBb]
   have HC:=Lib.hid (qO (.pointer (some ⟨Bb,0,none⟩)) 900000 l (.slice a nl cap) w4 hsz (by omega) (Wp.out.up (by rw [<- HS.out];exact b4)) hw1 (oo.out w4 b4));have K4:=Lib.hid k4;have B4:=Lib.hid b4;have Z4:=Lib.hid z4;clear hE hw1 hw3 k4 b4 z4;go_upto_region 7 with (fail)
   rw [<- hw4,<- hBb];clear hw4 hBb;go_wp2_with fail
   (with_reducible refine HC.out.mono ?_)
   rintro e w5 ⟨qR,v5,rfl,bR⟩;obtain ⟨n5,PG⟩:∃ n5,n5=((ah.aR l).map Nd.d).length:=⟨_,rfl⟩;have jd8:n5<=900000:=by rw [PG,jex];exact FZ.out
   obtain ⟨a5,c5,rfl,-,-⟩:=bR.cap PG.symm;have HN5:=Lib.hid PG.symm;have Qc:=Lib.hid bR;have Pz:=Lib.hid bR.aJ;clear bR PG HC;obtain ⟨Bf,Wu⟩:∃ Bf,Bf=w5.heap.size:=⟨_,rfl⟩;obtain ⟨w6,j4⟩:∃ w6,w6=w5.alloc (.cells #[Ws Bb] 88):=⟨_,rfl⟩;obtain ⟨W0,hW0⟩:∃ W0,W0=w6.alloc (.cells #[.slice a nl cap] 28):=⟨_,rfl⟩;have z6:w6.heap.size=Bf+1:=by rw [j4,jf5,Wu]
   have zz:W0.heap.size=Bf+2:=by rw [hW0,jf5,z6]
   have ja5:=Pz.out.size;have jd9:Bb<Bf:=by have:=Z4.out;omega
   have g5:jhj w5.heap.size w5 W0:=by rw [hW0,j4];exact ((je7 _ _).alloc (je8 _) _).alloc (by rw [jf5];omega) _
   have bF:aG Bf (Ws Bb) 88 W0:=by rw [hW0,j4,Wu];exact (aG.new _ _ _).alloc _
   have bL:aG (Bf+1) (.slice a nl cap) 28 W0:=by rw [hW0,<- z6];exact aG.new _ _ _
   have bB:aG Bb (.slice none 0 0) 84 W0:=(K4.out.below (B:=w4.heap.size) (by have:=Z4.out;omega) Pz.out).below (B:=w5.heap.size) (by omega) g5;have bl0:jhj S w W0:=(B4.out.trans (Pz.out.mono (by have:=Z4.out;omega))).trans (g5.mono (by have:=Z4.out;omega));have HR5:=Lib.hid (Qc.out.below g5);have hU5:w5.heap.size=Bf:=Wu.symm;have N0:Qb Bb W0.heap.size S w W0 [] W0:=⟨⟨W0,[],.slice none 0 0,rfl,aI.nil _ _ _ _,bB⟩,rR.refl _ _ _⟩;have HFB:=Lib.hid (show aG Bf (Ws Bb) 88 W0 from bF);have hnf:∀ (x:Nat) (wx:jh9),Sem.run Tryz.prog (binOp BinOp.eql 90 (Value.func (Fn.func 107) #[] #[Value.pointer (some ⟨x,0,none⟩)]) Value.nilFunc) wx=.ok (.bool false) wx:=fun x wx=>by rfl
   have HBS:=Lib.hid (show Rd (·<S) w (nR l) [.slice a nl cap] by rw [HS.out];exact Wp.out);have EC:=Lib.hid (Ll a nl cap w6);rw [<- hW0,z6] at EC;have HU5:=Lib.hid hU5;have HZZ:=Lib.hid zz;clear bF bB g5 z6 ja5 Qc hU5 hW0;have Wv:Ws Bb=.func (.func 56) #[] #[.pointer (some ⟨Bb,0,none⟩)]:=rfl;rw [Wv] at j4;go_upto_region 9 with (fail)
   rw [<- j4,<- Wu];clear j4 Wu Wv;go_wp2_with fail
   (with_reducible refine EC.out.mono ?_)
   rintro e w7 ⟨rfl,hw7⟩;rw [hw7];clear EC hw7 w7;go_wp2_with fail
   obtain ⟨s0,hs0⟩:∃ s0,s0=Value.slice a nl cap:=⟨_,rfl⟩;have hN0:W0.heap.size=Bf+2:=HZZ.out;have hBN:Bb<W0.heap.size:=by omega
   refine wpIn_wide (n:=3) |>.1 ?_
   refine wpIn_rangeFunc_ownH (α:=BW S w Oo) rfl (by decide) (gf:=107) (lb:=#[.pointer (some ⟨Bf+1,0,none⟩)]) rfl trivial (enters_of Tryz.func107 (by kernel_rfl) rfl)
    (EH 2 (Bf+1) S Oo l (.slice a nl cap) w W0 (rR Bb W0.heap.size) (rR.ok hSB hBN) HWN.out HBS.out bl0 (by omega) bL) (fun h k=>h.trans k) (fun W l o o' h1 h2 h3 _=>rR.obj Bb W0.heap.size W l o o' h1 h2 h3) (je7 _ _) (fun _=>rfl)
    (Qb Bb W0.heap.size S w W0) (fun _ _ _=>False) (Qb.own hBN rfl) (fun c s A B row h _ _=>h) N0
    (fun x a' W=>Ym W0.heap.size Bb Bf (Bf+1) (.slice a nl cap) (.slice a5 n5 c5) (.slice a2 n2 c2) (E0:Int) x.1 a' W) (fun x a'=>Ym.own) ?assign ?body ?done ?stop
   case stop=>rintro D c pre W _ _ h _;exact h.elim
   case assign=>
    rintro l0 pre ⟨⟨kd,lv,i,t,d,ti,at_,li,ks,vc,vp,vl,vk⟩,hR,jdj⟩ W K hi hK;dsimp only at hR hK;obtain ⟨ac,nc,cc,rfl⟩:=Rd.au hR.at_.cls
    obtain ⟨ap,np,cp,rfl⟩:=Rd.au hR.at_.aP
    obtain ⟨al,Yn,cl,rfl⟩:=Rd.au hR.line;obtain ⟨ak,nk,ck,rfl⟩:=Rd.au hR.kids;have HI:=Lib.hid hi;have HK:=Lib.hid hK;clear hi hK;dsimp only [BV.enc]
    gi_wp2
    have hsz:=HI.out.2.size;exact HK.out _ _ ((KeepsOthers.alloc _ _).from _) (rR.grown (World.grownBy_alloc _ _ none) hsz (fun r e=>by cases e)) ⟨HI.out.1.xU hBN (World.grownBy_alloc _ _ none) (fun r e=>by cases e),HI.out.2.trans (rR.grown (World.grownBy_alloc _ _ none) hsz (fun r e=>by cases e))⟩ ⟨W.heap.size,hsz,heap_alloc_new W _,rfl⟩
   case body=>
    rintro l0 pre x a' W hl0 _ hN ⟨Bx,hBx,Gq,rfl⟩ hlen;have hR:=x.2.1;have Qd:=x.2.2;obtain ⟨y,hy⟩:∃ y,y=x.1:=⟨_,rfl⟩;rw [<- hy] at hR Gq Qd ⊢;have HEQ:Hid ((su (pre++[x])).flatMap fT=(su pre).flatMap fT++fT y.blk):=by show _=_;rw [iZ,List.flatMap_append,hy];show _++List.flatMap fT [x.1.blk]=_;rw [List.flatMap_cons,List.flatMap_nil,jh6]
    have Ww:((su pre).flatMap fT).length<=1000000:=by have h1:=nJ (su pre);rw [vE] at h1;have:=HEL.out;omega
    obtain ⟨kd,lv,i,t,d,ti,at_,li,ks,vc,vp,vl,vk⟩:=y;dsimp only at hR;have Qd:i.size<=300/\(kd=14->ah.jN ks/\ah.aS ks<=900000):=Qd;obtain ⟨ac,nc,cc,rfl⟩:=Rd.au hR.at_.cls
    obtain ⟨ap,np,cp,rfl⟩:=Rd.au hR.at_.aP
    obtain ⟨al,Yn,cl,rfl⟩:=Rd.au hR.line;obtain ⟨ak,nk,ck,rfl⟩:=Rd.au hR.kids;have c0:=Gq.cell 0 _ rfl;have hSW:=hN.2.size;have hbW:jhj S w W:=bl0.trans (hN.2.below (S:=S) hSB hBN);have HN:=Lib.hid hN;dsimp only at c0;clear hlen hy hN;unfold Qa;dsimp only [BV.enc];by_cases hk:kd=14
    ·subst hk;have q1:((14:Int)==14)=true:=rfl;have c1:=Gq.cell 1 _ rfl;have c2:=Gq.cell 2 _ rfl;have c3:=Gq.cell 3 _ rfl;have c4:=Gq.cell 4 _ rfl;have c5:=Gq.cell 5 _ rfl;have c6:=Gq.cell 6 _ rfl;have c7:=Gq.cell 7 _ rfl;have c8:=Gq.cell 8 _ rfl;have c9:=Gq.cell 9 _ rfl;have c10:=Gq.cell 10 _ rfl;dsimp only at c1 c2 c3 c4 c5 c6 c7 c8 c9 c10;have bxF:W.cell? ⟨Bf,0,none⟩=some (.func (.func 56) #[] #[.pointer (some ⟨Bb,0,none⟩)]):=aG.cell (t:=88) ((HN.out.2.blk Bf (by omega) (by omega)).trans HFB.out);have hCA:=BU Bb W0.heap.size ((su pre).flatMap fT) 14 lv i t d ti at_ li ks (.slice ac nc cc) (.slice ap np cp) (.slice al Yn cl) (.slice ak nk ck) W hBN (hR.Bj (fun b (hb:b<S) hlt=>⟨by omega,hbW.block b hb⟩)) (Qd.2 rfl).1 (Qd.2 rfl).2 Qd.1 (oo.out W hbW) Ww HN.out.1
     have HCA:=Lib.hid hCA;have hno:fT (BV.blk ⟨14,lv,i,t,d,ti,at_,li,ks,.slice ac nc cc,.slice ap np cp,.slice al Yn cl,.slice ak nk ck⟩)=[aN jM [⟨eT,rT++i⟩,⟨eP,dx⟩] (ah.aR ks)]:=rfl;have QC:=Lib.hid hno;clear hno hCA Gq hR Qd
     gi_wp2_with fail
     refine ⟨trivial,?_⟩;refine (CallsIn.inRound l0 (callsIn_wide.2 HCA.out)).mono ?_;rintro e W2 ⟨rfl,hBu,Yo,hSt⟩;have HP:Hid (Qb Bb W0.heap.size S w W0 (pre++[x]) W2):=by refine ⟨?_,HN.out.2.trans Yo⟩;rw [HEQ.out,QC.out];exact hBu
     have HKF:Hid (KeepsFrom W0.heap.size W W2):=⟨Yo.size,fun k o hk' ho hc=>hSt k o ho hc⟩;have TW:=Lib.hid Yo;clear hBu Yo hSt c0 c1 c2 c3 c4 c5 c6 c7 c8 c9 c10 bxF HCA;dsimp only
     gi_wp2
     exact ⟨HKF.out,TW.out,HP.out⟩
    ·have q1:(kd==14)=false:=by rw [beq_eq_false_iff_ne];exact hk
     have HP:Hid (Qb Bb W0.heap.size S w W0 (pre++[x]) W):=by
      have hno:fT (BV.blk ⟨kd,lv,i,t,d,ti,at_,li,ks,.slice ac nc cc,.slice ap np cp,.slice al Yn cl,.slice ak nk ck⟩)=[]:=by show fT (.mk kd lv i t d ti at_ li ks)=_;unfold fT;exact if_neg hk
      refine ⟨?_,HN.out.2⟩;rw [HEQ.out,hno,jh6];exact HN.out.1
     clear hk Gq hR Qd
     gi_wp2
     exact ⟨(KeepsOthers.refl _).from _,rR.refl _ _ _,HP.out⟩
   case done=>
    rintro D pre W hD hpre hN hK;rw [Qb,hpre] at hN;obtain ⟨⟨wB,rows,vN,Pk,hrow,hbx⟩,hkp⟩:=hN;have hnt:(ah.aF l).flatMap fT=fC l:=rfl;rw [hnt] at hrow;obtain ⟨m,hm⟩:∃ m,m=((fC l).map Nd.d).length:=⟨_,rfl⟩;have hm1:m<=900000:=by rw [hm,jex];exact je9 (nJ (ah.aF l)) HEL.out
    obtain ⟨av,cv,rfl,-,-⟩:=hrow.cap hm.symm;have hbl:jhj S w W:=bl0.trans (hkp.below (S:=S) hSB hBN);have hDW:D<W.heap.size:=(Array.getElem?_eq_some_iff.1 hK).1;have hBZ:w5.heap.size=Bf:=HU5.out;obtain ⟨wO,hzO,hrO⟩:=HR5.out.reU (w':=W) hkp.size (fun b h1 h2=>hkp.blk b (by omega) (by have:=Z4.out;omega));have HO:=Lib.hid hrO;have Wx:=Lib.hid hzO;have HK:=Lib.hid hK;have Dp:=Lib.hid hbl;have bC:=Lib.hid hrow;have zY:=Lib.hid Pk;have HSW:=Lib.hid hkp.size;have x0:=hbx.cell;have TY:Hid (∀ y:jh9,jhj W.heap.size W y->y.cell? ⟨Bb,0,none⟩=some (.slice av m cv)):=fun y hy=>(hbx.below (by have:=hkp.size;omega) hy).cell
    have hml:(fC l).length=m:=by rw [hm,jex]
    have HML:=Lib.hid hml;clear hrO hzO hK hbl hrow Pk hbx hpre hm hkp hml hnt;by_cases hm0:m=0
    ·have q8:¬ (0:Int)<(m:Int):=by omega
     have HF:Hid (bI w EE NN (.returned (.tuple #[.slice a5 n5 c5,.int .i64 0])) W):=by
      have I7:NN=ah.aR l:=by rw [PY.out];unfold dK;rw [if_pos (by rw [List.isEmpty_iff,<- List.length_eq_zero_iff,HML.out];exact hm0),jh6]
      rw [HE.out,I7];exact ⟨_,_,rfl,(HO.out.qm (by have:=Wx.out;have:=HS.out;have:=Z4.out;omega) (by rw [<- HS.out];exact Dp.out)).top⟩
     have HF2:=Lib.hid (HF.out.Wt (by have:=HS.out;omega) HK.out);clear HF;go_wp2;exact LB rfl HK.out (fun w'=>by simp [results,Tryz.results20,go_sem]) HF2.out
    ·have q8:(0:Int)<(m:Int):=by omega
     have I7:NN=ah.aR l++[aN gN [⟨eP,iV⟩] (fC l)]:=by rw [PY.out];unfold dK;rw [if_neg (by rw [List.isEmpty_iff,<- List.length_eq_zero_iff,HML.out];exact hm0)]
     have ja6:=Lib.hid I7;clear I7;go_upto_region 14 with (fail)
     refine EP ?_;refine gM 9 (fun w'=>w'.cell? ⟨Bb,0,none⟩=some (.slice av m cv)) (by kernel_rfl) (TY.out W.drew (je7 _ _).drew) ?_;intro hH;refine fF (i:=0) (v:=?_) rfl (by kernel_rfl) (by kernel_rfl) (by kernel_rfl) (by kernel_rfl) (by kernel_rfl) (fun _ _ _ h=>absurd rfl (h.1 _)) hH (Or.inl ⟨by rfl,?_⟩) ?_;rotate_left
     ·(intro wv hSw;(try dsimp only at hSw);go_simp;try with_reducible rfl)
     try simp only [Act.put,je3,je4,je5]
     refine fF (i:=3) (v:=?_) rfl (by kernel_rfl) (by kernel_rfl) (by kernel_rfl) (by kernel_rfl) (by kernel_rfl) (fun _ _ _ h=>absurd rfl (h.1 _)) hH (Or.inl ⟨by rfl,?_⟩) ?_;rotate_left
     ·(intro wv hSw;(try dsimp only at hSw);go_simp;try with_reducible rfl)
     try simp only [Act.put,je3,je4,je5]
     refine fF (i:=4) (v:=?_) rfl (by kernel_rfl) (by kernel_rfl) (by kernel_rfl) (by kernel_rfl) (by kernel_rfl) (fun _ _ _ h=>absurd rfl (h.1 _)) hH (Or.inl ⟨by rfl,?_⟩) ?_;rotate_left
     ·(intro wv hSw;(try dsimp only at hSw);go_simp;try with_reducible rfl)
     try simp only [Act.put,je3,je4,je5]
     refine fF (i:=5) (v:=?_) rfl (by kernel_rfl) (by kernel_rfl) (by kernel_rfl) (by kernel_rfl) (by kernel_rfl) (fun _ _ _ h=>absurd rfl (h.1 _)) hH (Or.inl ⟨by rfl,?_⟩) ?_;rotate_left
     ·(intro wv hSw;(try dsimp only at hSw);go_simp;try with_reducible rfl)
     try simp only [Act.put,je3,je4,je5]
     obtain ⟨y0,hy0⟩:∃ y0,y0=W.drew:=⟨_,rfl⟩;have Vr:jhj W.heap.size W y0:=by rw [hy0];exact (je7 _ _).drew
     rw [<- hy0] at hH;rw [<- hy0];clear hy0;have PC:Hid (Calls Tryz.prog 58 #[.slice (some ⟨y0.heap.size,0,none⟩) 2 2] (y0.alloc (.cells #[.string ⟨#[99,108,97,115,115]⟩,.string ⟨#[110,111,116,101,115]⟩] 9)) (bg (y0.alloc (.cells #[.string ⟨#[99,108,97,115,115]⟩,.string ⟨#[110,111,116,101,115]⟩] 9)) [⟨eP,iV⟩])):=MX eP iV y0;refine fK (i:=1) rfl (by kernel_rfl) (fun KQ hK=>?_);go_simp;have B1:jhj W.heap.size W (y0.alloc (.cells #[.string ⟨#[99,108,97,115,115]⟩,.string ⟨#[110,111,116,101,115]⟩] 9)):=Vr.alloc Vr.size _;refine hK.out _ _ (fun _ _=>TY.out _ B1) (fun hH2=>?_);clear hK KQ hH;have hH:=hH2 (by decide) (by kernel_rfl);clear hH2;try simp only [Act.put,je3,je4,je5]
     refine fK (i:=2) rfl (by kernel_rfl) (fun KQ hK=>?_);go_simp;go_at_call 58
     (with_reducible refine (PC.out).mono ?_)
     rintro e y2 ⟨aW,v2,rfl,hrow2⟩;obtain ⟨a9,c9,rfl,-,-⟩:=hrow2.cap (n:=1) rfl;have B2:jhj W.heap.size W y2:=B1.trans (hrow2.aJ.mono B1.size);have Vs:=Lib.hid (show Rd (W.heap.size<=·) y2 (bS [⟨eP,iV⟩]) [.slice a9 1 c9] from hrow2.eO.weaken (fun b hb=>je9 B1.size hb));clear hrow2 PC;refine hK.out _ _ (fun _ _=>TY.out _ B2) (fun hH2=>?_);clear hK KQ hH;have hH:=hH2 (by decide) (by kernel_rfl);clear hH2;try simp only [Act.put,je3,je4,je5]
     refine fK (i:=6) rfl (by kernel_rfl) (fun KQ hK=>?_);go_simp;go_at_call 57
     (with_reducible refine (iC ⟨#[115,101,99,116,105,111,110]⟩ a9 av 1 m c9 cv y2).mono ?_)
     rintro e y3 ⟨rfl,hb⟩;have B3:jhj W.heap.size W y3:=B2.trans (hb.mono B2.size);have XD:=Lib.hid (show Rd (fun b=>False\/w5.heap.size<=b) y3 (aN gN [⟨eP,iV⟩] (fC l)).d [.string ⟨#[115,101,99,116,105,111,110]⟩,.string ⟨#[]⟩,.slice a9 1 c9,.slice av m cv] from (Nd.gI ⟨#[115,101,99,116,105,111,110]⟩ ⟨#[]⟩ ⟨(Vs.out.aV hb).weaken (fun b (hb:W.heap.size<=b)=>by have:=HSW.out;show w5.heap.size<=b;omega),(bC.out.eO.aV B3).weaken (fun b (hb:wB.heap.size<=b)=>by have:=zY.out;show w5.heap.size<=b;omega)⟩).weaken (fun b hb=>.inr hb));have U3:=Lib.hid (HO.out.below B3);have K3:=Lib.hid (show y3.heap[D]?=some (.deferred (some [])) from (B3.block D hDW).trans HK.out);have hD3:D<y3.heap.size:=Nat.lt_of_lt_of_le hDW B3.size;clear hb;refine hK.out _ _ (fun _ _=>TY.out _ B3) (fun hH2=>?_);clear hK KQ hH;have hH:=hH2 (by decide) (by kernel_rfl);clear hH2;try simp only [Act.put,je3,je4,je5]
     refine fK (i:=7) rfl (by kernel_rfl) (fun KQ hK=>?_);go_simp;refine hK.out _ _ (fun _ _=>TY.out _ (B3.alloc B3.size _)) (fun hH2=>?_);clear hK KQ hH;have hH:=hH2 (by decide) (by kernel_rfl);clear hH2;try simp only [Act.put,je3,je4,je5]
     refine fK (i:=8) rfl (by kernel_rfl) (fun KQ hK=>?_);refine sZ (n:=n5) rfl (.tmp 34) (.tmp 41) 34 rfl iN _ 80 Tryz.underlying34 FJ oq ou ow rfl (by decide) U3.out (fun _=>False.elim) (aN gN [⟨eP,iV⟩] (fC l)).d [.string ⟨#[115,101,99,116,105,111,110]⟩,.string ⟨#[]⟩,.slice a9 1 c9,.slice av m cv] XD.out rfl j3 HN5.out (by omega) (by decide) rfl rfl ?_;intro a6 c6 w8 uF Yp;have hoD:some D≠(Value.slice a5 n5 c5).ownBlock:=fun e=>by have:=U3.out.oU D e.symm;omega
     have K8:w8.heap[D]?=some (.deferred (some [])):=(Yp.block D (by rw [jf5];omega) hoD).trans ((Below.heap_alloc y3 _ D hD3).trans K3.out);have B8:jhj w.heap.size w w8:=by have h1:jhj S wO w8:=uF.aJ.mono (by have:=Wx.out;have:=Z4.out;omega);have h2:jhj S w y3:=Dp.out.trans (B3.mono (by have:=Dp.out.size;have:=HS.out;omega));rw [<- HS.out];exact (h2.alloc (by have:=h2.size;have:=HS.out;omega) _).grown Yp (by rw [jf5];have:=h2.size;have:=HS.out;omega) (fun j hj=>by have:=U3.out.own.lt j hj;have:=Wx.out;have:=Z4.out;omega)
     have HF:bI w EE NN (.returned (.tuple #[.slice a6 (n5+1) c6,.int .i64 0])) w8:=by rw [HE.out,ja6.out];refine ⟨qR++[[.string ⟨#[115,101,99,116,105,111,110]⟩,.string ⟨#[]⟩,.slice a9 1 c9,.slice av m cv]],_,rfl,?_⟩;rw [List.map_append];exact uF.qm (by have:=Wx.out;have:=HS.out;have:=Z4.out;omega) B8
     have HF2:=Lib.hid (HF.Wt (by have:=HS.out;omega) K8);have HK8:=Lib.hid K8;have cb8:w8.cell? ⟨Bb,0,none⟩=some (.slice av m cv):=by
      have hBl:Bb<y3.heap.size:=by omega
      rw [fH (Yp.block Bb (by rw [jf5];omega) (fun e=>by have:=(U3.out.own.lt Bb e.symm).1;have:=Wx.out;have:=Z4.out;omega))];exact TY.out _ (B3.alloc B3.size _)
     clear uF Yp HF B8 K8 hoD;refine hK.out _ _ (fun _ _=>cb8) (fun hH2=>?_);clear hK KQ hH;have hH:=hH2 (by decide) (by kernel_rfl);clear hH2;try simp only [Act.put,je3,je4,je5]
     refine fK (i:=9) rfl (by kernel_rfl) (fun KQ hK=>?_);go_simp;refine hK.out _ _ (fun h=>absurd rfl h) (fun _=>?_);clear hK KQ hH;try simp only [Act.put,je3,je4,je5]
     refine F4 (by kernel_rfl) ?_ _;refine ⟨fun _ h=>(by cases h),?_⟩;clear XD U3 Vs;go_wp2;exact LB rfl HK8.out (fun w'=>by simp [results,Tryz.results20,go_sem]) HF2.out
 ·have q1:((E0:Int) != 0)=true:=by rw [bne_iff_ne];omega
  have HF:Hid (bI w EE NN (.returned (.tuple #[.slice none 0 0,.int .i64 (E0:Int)])) w1):=by
   have h5:EE=E0:=by rw [Nq.out,if_pos (by simpa using h0)]
   rw [h5];exact bI.nil (by rw [SB.out,h5,if_neg h0]) (by rw [<- HS.out];exact B1.out)
  clear h0;go_wp2;exact LA rfl (by simp [results,Tryz.results20,go_sem]) HF.out
theorem eB (key:ByteArray):Nd.aD key []=[]:=by rw [Nd.aD]
theorem q0z (key n:ByteArray) (a:List Pr) (ks:List Nd):((aN n a ks).vals key).length<=a.length+(Nd.aD key ks).length:=by
 unfold aN;rw [Nd.vals];split
 ·simp
 ·rw [jeq,jex];have:=List.length_filter_le (fun p:Pr=>decide (p.key=key)) a;omega
theorem zD (key:ByteArray) (x:Nd) (h:q01 x.nm=true):x.vals key=[]:=by obtain ⟨n,t,a,k⟩:=x;have h':q01 n=true:=h;rw [Nd.vals,if_pos h']
theorem Qe (key s:ByteArray):(yL s).vals key=[]:=zD key _ rfl
theorem oZ (key s:ByteArray):Nd.aD key (bG s)=[]:=by
 unfold bG;split
 ·rw [Nd.aD]
 ·rw [l8,Qe]
theorem Oq (key:ByteArray) (out:List Nd) (x:Nd):Nd.aD key (oP out x)=Nd.aD key out++x.vals key:=by
 unfold oP;split
 ·rename_i h
  have hx:=zD key x h;rw [hx,jh6];cases hg:out.getLast? with
  | none=>
   simp only;rw [Ho,l8,hx,jh6]
  | some y=>
   simp only;split
   ·rename_i hy
    have e:=EJ hg
    conv=>rhs;rw [e]
    rw [Ho,Ho,l8,l8,zD key y hy,zD key (.mk y.nm (y.tx++x.tx) y.at_ y.ks) hy]
   ·rw [Ho,l8,hx,jh6]
 ·rw [Ho,l8]
theorem Gr (key:ByteArray):∀ (l out:List Nd),Nd.aD key (l.foldl oP out)=Nd.aD key out++Nd.aD key l
 | [],out=>by rw [eB,jh6];rfl
 | x::l,out=>by rw [List.foldl_cons,Gr key l,Oq,Nd.aD,List.append_assoc]
theorem xV (key:ByteArray) (l:List Nd):Nd.aD key (gF l)=Nd.aD key l:=by unfold gF;rw [Gr,eB,List.nil_append]
theorem o8 (k v:ByteArray):(iD k v).length<=1:=by unfold iD;split<;>simp
theorem o9 (a:At) (more:List ByteArray):(jB a more).length<=2:=by unfold jB JX;have:=o8 eT a.id;rw [jeq];split<;>simp<;>omega
mutual
theorem aj.va (key:ByteArray):∀ x:aj,(x.nd.vals key).length<=5*x.sz
 | .mk k t d ti a ar ci ks=>by
  have h:=aj.vaR key ks;have hj:(Nd.aD key (gF (aj.zX ks))).length<=5*aj.aS ks:=by rw [xV];exact h
  have b1:=o8 cZ ti;have b2:=o9 a [];have b0:(Nd.aD key []).length=0:=by rw [eB];rfl
  rw [aj.nd,aj.sz];have I:∀ (c:Prop) [Decidable c] (a b:Nd),(a.vals key).length<=5*(1+aj.aS ks)->(b.vals key).length<=5*(1+aj.aS ks)->((if c then a else b).vals key).length<=5*(1+aj.aS ks):=fun c _ a b h1 h2=>by
   by_cases hc:c
   ·rw [if_pos hc];exact h1
   ·rw [if_neg hc];exact h2
  repeat' (with_reducible refine I _ _ _ ?_ ?_)
  all_goals first
   | (rw [Qe];exact jf3 _)
   | (refine je9 (q0z _ _ _ _) ?_;(try simp only [List.cons_append,jez,List.length_nil,jeq,oZ]);omega)
theorem aj.vaR (key:ByteArray):∀ l:List aj,(Nd.aD key (aj.zX l)).length<=5*aj.aS l
 | []=>by rw [aj.zX,eB];exact jf3 _
 | x::l=>by
  have h1:=aj.va key x;have h2:=aj.vaR key l;rw [aj.zX,Nd.aD,aj.aS,jeq];omega
end
theorem LD (key:ByteArray) (l:List aj):(Nd.aD key (iL l)).length<=5*aj.aS l:=by unfold iL;rw [xV];exact aj.vaR key l
theorem Cv (key name:ByteArray):∀ (cs:List UInt8) (l:List ah),(Nd.aD key (aT name cs l)).length<=5*((ah.aF l).length+(ah.aL l).length)
 | [],l=>by rw [aT.eq_def,eB];exact jf3 _
 | c::cs,[]=>by rw [aT.eq_def,eB];exact jf3 _
 | c::cs,b::l=>by
  have h:=Cv key name cs l;obtain ⟨k,lv,i,t,d,ti,a,li,ks⟩:=b;have h1:((J8 name c (ah.mk k lv i t d ti a li ks)).vals key).length<=1+5*aj.aS li:=by have g1:=q0z key name (iD uo (dO c)) (iL li);have g2:=o8 uo (dO c);have g3:=LD key li;exact je9 g1 (by omega)
  rw [aT,Nd.aD,ah.aF,ah.aL,ah.each,ah.inls,jeq,jeq,jeq,jeq,jez,aj.dI];omega
theorem LH (key name i:ByteArray) (b:ah):((jE name i b).vals key).length<=5*(b.each.length+b.inls.length):=by obtain ⟨k,lv,i',t,d,ti,a,li,ks⟩:=b;have h1:=q0z key qw [] (aT name i.data.toList ks);have h2:=Cv key name i.data.toList ks;have h3:((jE name i (ah.mk k lv i' t d ti a li ks)).vals key).length<=5*((ah.aF ks).length+(ah.aL ks).length):=je9 h1 (by simpa using h2);rw [ah.each,ah.inls,jeq,jez];omega
theorem Gs (key name i:ByteArray):∀ (l:List ah),(Nd.aD key (l.map (jE name i))).length<=5*((ah.aF l).length+(ah.aL l).length)
 | []=>by rw [List.map_nil,eB];exact jf3 _
 | b::l=>by
  have h1:=LH key name i b;have h2:=Gs key name i l;rw [List.map_cons,Nd.aD,ah.aF,ah.aL,jeq,jeq,jeq];omega
theorem LJ (key i:ByteArray) (l:List ah):((cO i l).vals key).length<=5*((ah.aF l).length+(ah.aL l).length):=by
 cases l with
 | nil=>
  unfold cO;refine je9 (q0z _ _ _ _) ?_;have h0:((aN dZ [] []).vals key).length=0:=by have:=q0z key dZ [] [];rw [eB] at this;simpa using this
  rw [l8,h0];exact jf3 _
 | cons h rows=>
  unfold cO;refine je9 (q0z _ _ _ _) ?_;have g1:=LH key Eu i h;have g2:=Gs key wG i rows;have g3:=q0z key dZ [] [jE Eu i h];rw [l8] at g3;rw [Nd.aD,ah.aF,ah.aL,jeq,jeq,jeq];have g4:(Nd.aD key (if rows.isEmpty=true then [] else [aN ny [] (rows.map (jE wG i))])).length<=(Nd.aD key (rows.map (jE wG i))).length:=by
   split
   ·rw [eB];exact jf3 _
   ·rw [l8];have:=q0z key ny [] (rows.map (jE wG i));simpa using this
  simp only [List.length_nil] at g3 ⊢;omega
mutual
theorem ah.va (key:ByteArray):∀ b:ah,(Nd.aD key b.qd).length<=5*(b.each.length+b.inls.length)
 | .mk k lv i t d ti a li ks=>by
  have h:=ah.Yq key ks;have hl:=LD key li;have ht:=LJ key i ks;have b1:=o8 eP (if q01 i=true then ⟨#[]⟩ else tH++i);have b2:=o9 a [];have b3:=o9 a [qQ];have b4:=o9 a [i];have b5:=q0z key gK (iD eP (if q01 i=true then ⟨#[]⟩ else tH++i)) (bG t);rw [oZ,List.length_nil] at b5;have b6:(if lv=1 then [] else [(⟨sStart,fq lv.toNat⟩:Pr)]).length<=1:=by split<;>simp
  have b0:(Nd.aD key []).length=0:=by rw [eB];rfl
  rw [ah.qd,ah.each,ah.inls,jez,jeq,aj.dI];generalize hM:5*((ah.aF ks).length+1+(aj.aS li+(ah.aL ks).length))=M;have I:∀ (c:Prop) [Decidable c] (a b:List Nd),(Nd.aD key a).length<=M->(Nd.aD key b).length<=M->(Nd.aD key (if c then a else b)).length<=M:=fun c _ a b h1 h2=>by
   by_cases hc:c
   ·rw [if_pos hc];exact h1
   ·rw [if_neg hc];exact h2
  refine I _ _ _ ?_ (I _ _ _ ?_ (I _ _ _ ?_ (I _ _ _ ?_ (I _ _ _ ?_ (I _ _ _ ?_ (I _ _ _ ?_ (I _ _ _ ?_ (I _ _ _ ?_ (I _ _ _ ?_ (I _ _ _ ?_ ?_))))))))))
  ·rw [l8];refine je9 (q0z _ _ _ _) ?_;simp only [List.length_nil];omega
  ·rw [l8];refine je9 (q0z _ _ _ _) ?_;omega
  ·rw [l8];refine je9 (q0z _ _ _ _) ?_;rw [l8];simp only [List.length_nil];omega
  ·rw [l8];refine je9 (q0z _ _ _ _) ?_;rw [oZ];simp only [List.length_nil];omega
  ·rw [l8];refine je9 (q0z _ _ _ _) ?_;simp only [List.length_nil];omega
  ·rw [l8];refine je9 (q0z _ _ _ _) ?_;simp only [List.length_nil];omega
  ·rw [l8];refine je9 (q0z _ _ _ _) ?_;simp only [List.length_nil];omega
  ·rw [l8];refine je9 (q0z _ _ _ _) ?_;omega
  ·rw [l8];refine je9 (q0z _ _ _ _) ?_;simp only [List.length_nil];omega
  ·rw [l8];omega
  ·rw [l8];refine je9 (q0z _ _ _ _) ?_;omega
  ·omega
theorem ah.Yq (key:ByteArray):∀ l:List ah,(Nd.aD key (ah.aR l)).length<=5*((ah.aF l).length+(ah.aL l).length)
 | []=>by rw [ah.aR,eB];exact jf3 _
 | b::l=>by
  have h1:=ah.va key b;have h2:=ah.Yq key l;rw [ah.aR,Ho,ah.aF,ah.aL,jeq,jeq,jeq];omega
end
mutual
theorem ah.ei:∀ b:ah,∀ x∈b.each,(ah.aF x.kids).length<=b.each.length/\(ah.aL x.kids).length<=b.inls.length
 | .mk k lv i t d ti a li ks,x,hx=>by
  rw [ah.each] at hx ⊢;rw [ah.inls,jez,jeq];rcases List.mem_cons.1 hx with rfl | hx
  ·exact ⟨by show (ah.aF ks).length<=_;omega,by show (ah.aL ks).length<=_;omega⟩
  ·have:=ah.eiL ks x hx;omega
theorem ah.eiL:∀ l:List ah,∀ x∈ah.aF l,(ah.aF x.kids).length<=(ah.aF l).length/\(ah.aL x.kids).length<=(ah.aL l).length
 | [],x,hx=>by rw [ah.aF] at hx;cases hx
 | b::l,x,hx=>by
  rw [ah.aF] at hx ⊢;rw [ah.aL,jeq,jeq];rcases List.mem_append.1 hx with hx | hx
  ·have:=ah.ei b x hx;omega
  ·have:=ah.eiL l x hx;omega
end
theorem Cw (key:ByteArray) (N:Nat):∀ (m:List ah),(∀ x∈m,(Nd.aD key (ah.aR x.kids)).length<=N)->(Nd.aD key (m.flatMap fT)).length<=m.length*(2+N)
 | [],_=>by rw [List.flatMap_nil,eB];exact jf3 _
 | x::m,h=>by
  have h1:=Cw key N m (fun y hy=>h y (List.mem_cons_of_mem _ hy));have h2:=h x (List.mem_cons_self ..);have h3:(Nd.aD key (fT x)).length<=2+N:=by
   obtain ⟨k,lv,i,t,d,ti,a,li,ks⟩:=x;have h2':(Nd.aD key (ah.aR ks)).length<=N:=h2;show (Nd.aD key (if k=14 then [aN jM [⟨eT,rT++i⟩,⟨eP,dx⟩] (ah.aR ks)] else [])).length<=2+N;by_cases hk:k=14
   ·rw [if_pos hk,l8];refine je9 (q0z _ _ _ _) ?_;simp only [jez,List.length_nil];omega
   ·rw [if_neg hk,eB];exact jf3 _
  rw [List.flatMap_cons,Ho,jeq,jez,Nat.succ_mul];omega
theorem Kt (key title lang:ByteArray) (l:List ah) (he:(ah.aF l).length<=120) (hi:(ah.aL l).length<=120):((mZ title lang (dK l)).vals key).length<=1000000:=by
 have h1:=ah.Yq key l;have h2:=Cw key 1200 (ah.aF l) (fun x hx=>by
  have g1:=ah.Yq key x.kids;have g2:=ah.eiL l x hx;omega)
 have h2':(Nd.aD key (fC l)).length<=120*1202:=je9 h2 (Nat.mul_le_mul_right _ he);have h3:(Nd.aD key (dK l)).length<=1200+1+144240:=by
  unfold dK;rw [Ho,jeq];have:(Nd.aD key (if (fC l).isEmpty=true then [] else [aN gN [⟨eP,iV⟩] (fC l)])).length<=1+(Nd.aD key (fC l)).length:=by
   split
   ·rw [eB];exact jf3 _
   ·rw [l8];exact q0z _ _ _ _
  omega
 unfold mZ;refine je9 (q0z _ _ _ _) ?_;rw [Nd.aD,l8,jeq];have g1:=q0z key mK [] [aN iU [⟨zZ,fQ⟩] [],aN fA [] (bG title)];have g2:=q0z key iU [⟨zZ,fQ⟩] [];have g3:=q0z key fA [] (bG title);have g4:=q0z key oK [] (dK l);rw [Nd.aD,l8,jeq] at g1;rw [oZ] at g3;rw [eB] at g2;simp only [jez,List.length_nil] at g1 g2 g3 g4 ⊢;omega
theorem Ku (me:List Pr) (l:List ah) (title lang:ByteArray) (h:Mw me l title lang=0) (x:ah) (hx:x∈ah.aF l) : ((x.lH=2\/x.lH=4\/x.lH=13)->q01 x.MG.id=false->x.MG.id∈(Eh me l title lang).vals eT)/\(x.lH=14->rT++x.Wh∈(Eh me l title lang).vals eT):=by have h1:=Kj (Ls h).1;unfold Eh;rw [if_pos h];exact ⟨fun hk hid=>uW _ _ _ (N7 oL l h1 x hx hk hid),fun hk=>uW _ _ _ (Ig l x hx hk)⟩
end Go.Proofs.YtclikfjalmcoaaaGreatDoor

