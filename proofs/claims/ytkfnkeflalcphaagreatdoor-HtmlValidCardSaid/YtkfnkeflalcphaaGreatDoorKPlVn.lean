/- Contracts of html.Line and publisherref34.Line. Plain part: the errors and the nodes of Blocks and Page; the small case of layer 34. What the statements of layer 34 share: text, same, has; Small at a document with one block that has a line only. Plain part: the notes of a well-formed document: what the walks ask of their blocks. Contract of html.Blocks: the nodes of blocks, with their notes behind them, or the error. Plain part: how many values of an attribute the nodes of a document have; the anchors of its page. -/
import Derived.Test.YtkfnkeflalcphaaGreatDoorKCkR
import Derived.Test.YtkfnkeflalcphaaGreatDoorKRpF
import Derived.Test.YtkfnkeflalcphaaGreatDoorKHtY
set_option maxHeartbeats 8000000
set_option maxRecDepth 100000
open Go.Lib (hid)
namespace Go.Proofs.YtkfnkeflalcphaaGreatDoor
open Go.RowKit.Below renaming refl->jnk
open Nat renaming le_refl->jnq
open List renaming length_append->jo1,length_map->jo2,length_cons->jo3,append_nil->jqk
open Go.World renaming size_alloc->jo9
open Go renaming World->jqz
open Go.RowKit renaming Below->jr0
open Go.RowKit
set_option linter.unusedVariables false
set_option linter.unusedSimpArgs false
def YB (l:List aj):Nat:=if vF l≠0 then vF l else if og l=true then 5 else 0
def lnN (l:List aj):List Nd:=if YB l=0 then iY l else []
def bO (w:jqz) (E:Nat) (L:List Nd) (e:Ending) (w':jqz):Prop:=
 ∃ rows v,e=.returned (.tuple #[v,.int .i64 (E:Int)])/\aH 35 4 (fun _=>False) w'.heap.size w (L.map Nd.d) rows v w'
theorem bO.nil {w w':jqz} {E:Nat} {L:List Nd} (hL:L=[]) (h:jr0 w.heap.size w w'):bO w E L (.returned (.tuple #[.slice none 0 0,.int .i64 (E:Int)])) w':=by subst hL;exact ⟨[],_,rfl,((aH.nil _ _ _ w).below h).top⟩
def VT (l:List aj):ah:=.mk 1 0 ⟨#[]⟩ ⟨#[]⟩ ⟨#[]⟩ ⟨#[]⟩ ⟨⟨#[]⟩,[],[]⟩ l []
theorem Gh (l:List aj):ah.aM [VT l]=aj.aY l:=by rw [ah.aM,ah.aM,jqk,VT,ah.inls,ah.aM,jqk]
theorem Ke (l:List aj) (v:Value) (w:jqz) (hrd:Rd (·<w.heap.size) w (bq l) [v]) (hsm:aj.ay l) (hsz:aj.aW l<=900000) : Calls Tryz.prog 32 #[v] w (bO w (YB l) (lnN l)):=by
 obtain ⟨a,cap,hv,-⟩:=Rd.aC hrd;obtain rfl:v=.slice a l.length cap:=by simpa using hv
 clear hv;have LC:=hid (DK l a cap w hsm hrd);have TQ:=hid hrd;have jO:=hid hsm;have hee:YB l=if vF l≠0 then vF l else if og l=true then 5 else 0:=rfl
 have hnn:lnN l=if YB l=0 then iY l else []:=rfl
 obtain ⟨E0,hE0⟩:∃ E0,E0=vF l:=⟨_,rfl⟩;obtain ⟨EE,M7⟩:∃ EE,EE=YB l:=⟨_,rfl⟩;obtain ⟨NN,M9⟩:∃ NN,NN=lnN l:=⟨_,rfl⟩;rw [<- hE0] at LC hee;rw [<- M7] at hee hnn;rw [<- M9] at hnn;rw [<- M7,<- M9];have SK:=hid hee;have YC:=hid hnn;have HE0:=hid hE0;clear hrd hsm hee hnn hE0 M7 M9;go_enter Tryz.func32,Tryz.ntmps32;go_wp2_with fail
 (with_reducible refine LC.out.mono ?_)
 rintro e w1 ⟨rfl,b1⟩;have B1:=hid b1;have hz1:=b1.size;clear b1 LC;by_cases h0:E0=0
 ·have q1:((E0:Int) != 0)=false:=by rw [h0];rfl
  have HE1:Hid (vF l=0):=by show _=_;rw [<- HE0.out,h0]
  have Jh:Hid (EE=if og l=true then 5 else 0):=by show _=_;rw [SK.out,if_neg (by simp [h0])]
  obtain ⟨wL,hwL⟩:∃ wL,wL=w1.alloc (.cells #[.int .i64 1,.int .i64 0,.string ⟨#[]⟩,.string ⟨#[]⟩,.string ⟨#[]⟩,.string ⟨#[]⟩,.string ⟨#[]⟩,.slice none 0 0,.slice none 0 0,.slice a l.length cap,.slice none 0 0] 48):=⟨_,rfl⟩;have bL:jr0 w1.heap.size w1 wL:=by rw [hwL];exact (jnk _ _).alloc (jnq _) _
  have rL:Rd (·<wL.heap.size) wL (bZ [VT l]) [.slice (some ⟨w1.heap.size,0,none⟩) 1 1]:=by
   rw [hwL];have h:=aH.one (T:=48) (k:=11) (w:=w1) (d:=(VT []).d) (r:=[.int .i64 1,.int .i64 0,.string ⟨#[]⟩,.string ⟨#[]⟩,.string ⟨#[]⟩,.string ⟨#[]⟩,.string ⟨#[]⟩,.slice none 0 0,.slice none 0 0,.slice none 0 0,.slice none 0 0]) rfl (ah.iH 1 0 ⟨#[]⟩ ⟨#[]⟩ ⟨#[]⟩ ⟨#[]⟩ (a:=⟨⟨#[]⟩,[],[]⟩) ⟨⟨Rd.aD _ _ _,Rd.aD _ _ _⟩,Rd.aD _ _ _,Rd.aD _ _ _⟩);have hb:Rd (·<(w1.alloc (.cells #[.int .i64 1,.int .i64 0,.string ⟨#[]⟩,.string ⟨#[]⟩,.string ⟨#[]⟩,.string ⟨#[]⟩,.string ⟨#[]⟩,.slice none 0 0,.slice none 0 0,.slice a l.length cap,.slice none 0 0] 48)).heap.size) (w1.alloc (.cells #[.int .i64 1,.int .i64 0,.string ⟨#[]⟩,.string ⟨#[]⟩,.string ⟨#[]⟩,.string ⟨#[]⟩,.string ⟨#[]⟩,.slice none 0 0,.slice none 0 0,.slice a l.length cap,.slice none 0 0] 48)) (VT l).d [.int .i64 1,.int .i64 0,.string ⟨#[]⟩,.string ⟨#[]⟩,.string ⟨#[]⟩,.string ⟨#[]⟩,.string ⟨#[]⟩,.slice none 0 0,.slice none 0 0,.slice a l.length cap,.slice none 0 0]:=
    ah.iH 1 0 ⟨#[]⟩ ⟨#[]⟩ ⟨#[]⟩ ⟨#[]⟩ (a:=⟨⟨#[]⟩,[],[]⟩) ⟨⟨Rd.aD _ _ _,Rd.aD _ _ _⟩,(TQ.out.up B1.out).up ((jnk _ _).alloc (jnq _) _),Rd.aD _ _ _⟩
   refine Rd.jR (rows:=[_]) (B:=w1.heap.size) (e:=48) ⟨rfl,.inr ⟨w1.heap.size,1,_,rfl,jnq _,heap_alloc_new w1 _,by simp,by unfold maxLen;simp,rfl,rfl⟩⟩ (aQ.one hb) (by simp) (fun g hg=>?_);have e1:w1.heap.size=g:=by simpa [Value.ownBlock] using hg
   rw [jo9];omega
  have IC:=uz [VT l] (.slice (some ⟨w1.heap.size,0,none⟩) 1 1) wL rL (by rw [ah.sj,ah.sj,VT,ah.bd,ah.sj];exact ⟨⟨by simp,by simp,aj.kU l jO.out,by omega,trivial⟩,trivial⟩)
   (by rw [ah.aW,ah.aW,VT,ah.sz,ah.aW];omega) (by rw [Gh,aj.dW];omega)
  rw [Gh] at IC;have IL:=hid IC;have BL:=hid (aU B1.out bL);clear IC rL bL h0;go_upto_region 4 with (fail)
  have jix:=hid hwL;clear hwL;go_wp2_with fail
  rw [<- jix.out]
  (with_reducible refine IL.out.mono ?_)
  rintro e w2 ⟨v2,bE,rfl,hown2,KM,rF,b2⟩;have F5:Rd (fun _=>True) w2 (bq (aj.aY l)) [v2]:=Rd.jR (by rw [jo2];exact hown2) KM rF (fun _ _=>trivial);have UC:=wh (aj.aY l) _ v2 w2 F5;have hue:(aj.aY l).any fu=og l:=rfl;rw [hue] at UC;have UL:=hid UC;have B2:=hid (aU BL.out b2);clear hown2 KM rF b2 F5 UC IL hue;go_wp2_with fail
  (with_reducible refine UL.out.mono ?_)
  rintro e w3 ⟨rfl,b3⟩;have B3:=hid (aU B2.out b3);obtain ⟨u,hu⟩:∃ u,u=og l:=⟨_,rfl⟩;rw [<- hu] at Jh;rw [<- hu];have HU:=hid hu;clear b3 UL hu;cases u with
  | true=>
   have HF:Hid (bO w EE NN (.returned (.tuple #[.slice none 0 0,.int .i64 5])) w3):=by
    have h5:EE=5:=by rw [Jh.out];rfl
    rw [h5];exact bO.nil (by rw [YC.out,h5];rfl) B3.out
   go_wp2
   go_ret2
   exact HF.out
  | false=>
   have HC:=hid (sJ 900000 l (.slice a l.length cap) w3 hsz (by omega) (TQ.out.up B3.out) jO.out (Dl l HE1.out HU.out.symm));go_wp2_with fail
   (with_reducible refine HC.out.mono ?_)
   rintro e w4 ⟨dJ,v4,rfl,hrow4⟩;have HF:Hid (bO w EE NN (.returned (.tuple #[v4,.int .i64 0])) w4):=by
    have h5:EE=0:=by rw [Jh.out];rfl
    have hN:NN=iY l:=by rw [YC.out,h5];rfl
    rw [h5,hN];exact ⟨dJ,v4,rfl,hrow4.sG B3.out.size (aU B3.out hrow4.aN)⟩
   clear hrow4 HC;go_wp2
   go_ret2
   exact HF.out
 ·have q1:((E0:Int) != 0)=true:=by rw [bne_iff_ne];omega
  have HF:Hid (bO w EE NN (.returned (.tuple #[.slice none 0 0,.int .i64 (E0:Int)])) w1):=by
   have h5:EE=E0:=by rw [SK.out,if_pos (by simpa using h0)]
   rw [h5];exact bO.nil (by rw [YC.out,h5,if_neg h0]) B1.out
  clear h0;go_wp2
  go_ret2
  exact HF.out
def GX (l:List ah):Nat:=if ah.aR qE 0 0 l≠0 then ah.aR qE 0 0 l else if (ah.aM l).any fu=true then 5 else 0
def Vp (l:List ah):List Nd:=if GX l=0 then eB l else []
def OG (me:List Pr) (l:List ah) (title lang:ByteArray):Nat:=
 if iV qE me l≠0 then iV qE me l else if fH title=false then 17 else if iU lang=false then 6 else if (ah.aM l).any fu=true then 5 else 0
def AO:Nd:=.mk ⟨#[]⟩ ⟨#[]⟩ [] []
def Io (me:List Pr) (l:List ah) (title lang:ByteArray):Nd:=if OG me l title lang=0 then jd title lang (eB l) else AO
theorem OH {me:List Pr} {l:List ah} (h:iV qE me l=0):ah.aR qE 0 0 l=0:=by
 unfold iV at h;split at h
 ·cases h
 ·split at h
  ·rename_i h1;exact absurd h h1
  ·exact h
theorem Gi {l:List ah} (h:GX l=0):ah.aR qE 0 0 l=0/\(ah.aM l).any fu=false:=by
 unfold GX at h;split at h
 ·rename_i h1;exact absurd h h1
 ·rename_i h1
  split at h
  ·cases h
  ·rename_i h2
   exact ⟨Classical.not_not.1 h1,by simpa using h2⟩
theorem OZ {me:List Pr} {l:List ah} {title lang:ByteArray} (h:OG me l title lang=0):iV qE me l=0/\fH title=true/\iU lang=true/\(ah.aM l).any fu=false:=by
 unfold OG at h;split at h
 ·rename_i h1;exact absurd h h1
 ·rename_i h1
  split at h
  ·cases h
  ·rename_i h2
   split at h
   ·cases h
   ·rename_i h3
    split at h
    ·cases h
    ·rename_i h4
     exact ⟨Classical.not_not.1 h1,by simpa using h2,by simpa using h3,by simpa using h4⟩
theorem LQ (s:ByteArray):(((At.err ⟨⟨#[]⟩,[],[⟨⟨#[116,105,116,108,101]⟩,s⟩]⟩:Nat):Int)==0)=fH s:=by
 have h1:iU (⟨#[116,105,116,108,101]⟩:ByteArray)=true:=by decide +kernel
 have h2:dI [] [⟨⟨#[116,105,116,108,101]⟩,s⟩]=if fH s=false then 17 else 0:=by
  rw [dI,h1];have h0:hasB [] (⟨#[116,105,116,108,101]⟩:ByteArray)=false:=rfl;rw [if_neg (by decide),h0];split
  ·rfl
  ·rfl
 cases hs:fH s with
 | true=>
  rw [hs] at h2;have h3:At.err ⟨⟨#[]⟩,[],[⟨⟨#[116,105,116,108,101]⟩,s⟩]⟩=0:=by unfold At.err;rw [h2];rfl
  rw [h3];rfl
 | false=>
  rw [hs] at h2;have h3:At.err ⟨⟨#[]⟩,[],[⟨⟨#[116,105,116,108,101]⟩,s⟩]⟩=17:=by unfold At.err;rw [h2];rfl
  rw [h3];rfl
theorem Ul {l:List ah} (h:GX l=0):ah.lK l:=by obtain ⟨h1,h2⟩:=Gi h;exact ah.jF qE l 0 0 (by decide) (by decide) h1 (by rw [ah.lS];exact h2)
def Qw:At:=⟨⟨#[]⟩,[],[]⟩
def eTx (t:ByteArray):aj:=.mk 1 t ⟨#[]⟩ ⟨#[]⟩ Qw [] [] []
def KO:aj:=.mk 2 ⟨#[]⟩ ⟨#[]⟩ ⟨#[]⟩ Qw [] [] []
def CQ:aj:=.mk 14 ⟨#[97]⟩ ⟨#[]⟩ ⟨#[]⟩ Qw [] [] []
def eL:List aj:=[eTx ⟨#[97]⟩,KO,eTx ⟨#[98]⟩]
def FI:ah:=.mk 5 0 ⟨#[]⟩ ⟨#[]⟩ ⟨#[]⟩ ⟨#[]⟩ Qw [] []
def Kg:ah:=.mk 14 0 ⟨#[120]⟩ ⟨#[]⟩ ⟨#[]⟩ ⟨#[]⟩ Qw [] []
def xA:ah:=.mk 6 0 ⟨#[]⟩ ⟨#[]⟩ ⟨#[]⟩ ⟨#[]⟩ Qw [] [Kg]
theorem jg7:YB eL=0:=by decide +kernel
theorem jg8:lnN eL=[uS ⟨#[97,32,98]⟩]:=by rfl
theorem jg9:GX [FI]=0:=by decide +kernel
theorem jgj:Vp [FI]=[aO Xm [] []]:=by rfl
theorem jgk:GX [xA]=0:=by decide +kernel
theorem jgq:Vp [xA]=[aO wU [] [],aO iM [⟨eX,je⟩] [aO mH [⟨jZ,⟨#[110,111,116,101,45,120]⟩⟩,⟨eX,dK⟩] []]]:=by rfl
theorem jgx:OG [] [] ⟨#[84]⟩ ⟨#[101,110]⟩=0:=by decide +kernel
theorem jgz:Io [] [] ⟨#[84]⟩ ⟨#[101,110]⟩=aO VO [⟨kT,⟨#[101,110]⟩⟩] [aO rz [] [aO jP [⟨GV,iL⟩] [],aO jc [] [uS ⟨#[84]⟩]],aO uo [] []]:=by rfl
theorem e_r:YB [CQ]=5:=by decide +kernel
open Go.RowKit
def eC (t:ByteArray):List Value:=[.int .i64 1,.string t,.string ⟨#[]⟩,.string ⟨#[]⟩,.string ⟨#[]⟩,.slice none 0 0,.slice none 0 0,.slice none 0 0,.slice none 0 0,.slice none 0 0]
theorem XM (t:ByteArray) (w:jqz) : Calls Tryz.prog 33 #[.string t] w fun e w'=>e=.returned (.agg (eC t).toArray)/\jr0 w.heap.size w w':=by
 obtain ⟨w0,hw0⟩:∃ w0,w0=w.alloc (.cells #[.int .i64 0,.string ⟨#[]⟩,.string ⟨#[]⟩,.string ⟨#[]⟩,.string ⟨#[]⟩,.slice none 0 0,.slice none 0 0,.slice none 0 0,.slice none 0 0,.slice none 0 0] 66):=⟨_,rfl⟩;have b0:jr0 w.heap.size w w0:=by rw [hw0];exact (jnk _ _).alloc (jnq _) _
 have P0:PB w.heap.size [.int .i64 0,.string ⟨#[]⟩,.string ⟨#[]⟩,.string ⟨#[]⟩,.string ⟨#[]⟩,.slice none 0 0,.slice none 0 0,.slice none 0 0,.slice none 0 0,.slice none 0 0] w0:=by rw [hw0];exact heap_alloc_new w _
 have r0:=P0.cell 0 _ rfl;have r1:=P0.cell 1 _ rfl;have r2:=P0.cell 2 _ rfl;have r3:=P0.cell 3 _ rfl;have r4:=P0.cell 4 _ rfl;have r5:=P0.cell 5 _ rfl;have r6:=P0.cell 6 _ rfl;have r7:=P0.cell 7 _ rfl;have r8:=P0.cell 8 _ rfl;have r9:=P0.cell 9 _ rfl;have g0:=P0.free 0;have g1:=P0.free 1;have g2:=P0.free 2;have g3:=P0.free 3;have g4:=P0.free 4;have g5:=P0.free 5;have g6:=P0.free 6;have g7:=P0.free 7;have g8:=P0.free 8;have g9:=P0.free 9;have FB:=hid (fun u0 u1 u2 u3 u4 u5 u6 u7 u8 u9=>(((((((((b0.setCell (p:=⟨w.heap.size,0,none⟩) (jnq _) u0).setCell (p:=⟨w.heap.size,1,none⟩) (jnq _) u1).setCell (p:=⟨w.heap.size,2,none⟩) (jnq _) u2).setCell (p:=⟨w.heap.size,3,none⟩) (jnq _) u3).setCell (p:=⟨w.heap.size,4,none⟩) (jnq _) u4).setCell (p:=⟨w.heap.size,5,none⟩) (jnq _) u5).setCell (p:=⟨w.heap.size,6,none⟩) (jnq _) u6).setCell (p:=⟨w.heap.size,7,none⟩) (jnq _) u7).setCell (p:=⟨w.heap.size,8,none⟩) (jnq _) u8).setCell (p:=⟨w.heap.size,9,none⟩) (jnq _) u9);clear P0 b0;go_enter Tryz.func33,Tryz.ntmps33;go_upto_region 1 with (fail)
 rw [<- hw0];clear hw0;go_wp2;exact bodyPost_ret (v:=.agg (eC t).toArray) (by simp [eC,results,Tryz.results33,go_sem,r0,r1,r2,r3,r4,r5,r6,r7,r8,r9]) rfl ⟨rfl,FB.out _ _ _ _ _ _ _ _ _ _⟩
theorem Rd.OI {ok:Nat->Prop} {w:jqz} {k:Nat} {l:List D} {rows:List (List Value)} {b cap:Nat} (hl:l.length<=cap) (hm:cap<=maxLen) (h:aQ ok w l rows) (hk:∀ r∈rows,r.length=k) (hok:ok b) (hb:b<w.heap.size) (hc:∀ j u,rows.flatten[j]?=some u->w.cell? ⟨b,j,none⟩=some u):Rd ok w (.sl k l) [.slice (some ⟨b,0,none⟩) l.length cap]:=by unfold Rd;exact ⟨_,cap,rows,rfl,hl,hm,h,hk,.inr ⟨b,0,rfl,hok,hb,fun j u hu=>by rw [Nat.zero_add];exact hc j u hu⟩⟩
theorem DL (ok:Nat->Prop) (w:jqz):AtR ok w Qw (.slice none 0 0) (.slice none 0 0):=⟨Rd.aD _ _ _,Rd.aD _ _ _⟩
theorem OJ (ok:Nat->Prop) (w:jqz) (t:ByteArray):Rd ok w (eTx t).d (eC t):=aj.iH 1 t ⟨#[]⟩ ⟨#[]⟩ ⟨DL _ _,Rd.aD _ _ _,Rd.aD _ _ _,Rd.aD _ _ _⟩
theorem SL (ok:Nat->Prop) (w:jqz):Rd ok w KO.d [.int .i64 2,.string ⟨#[]⟩,.string ⟨#[]⟩,.string ⟨#[]⟩,.string ⟨#[]⟩,.slice none 0 0,.slice none 0 0,.slice none 0 0,.slice none 0 0,.slice none 0 0]:=aj.iH 2 ⟨#[]⟩ ⟨#[]⟩ ⟨#[]⟩ ⟨DL _ _,Rd.aD _ _ _,Rd.aD _ _ _,Rd.aD _ _ _⟩
theorem XQ (ok:Nat->Prop) (w:jqz):Rd ok w CQ.d [.int .i64 14,.string ⟨#[97]⟩,.string ⟨#[]⟩,.string ⟨#[]⟩,.string ⟨#[]⟩,.slice none 0 0,.slice none 0 0,.slice none 0 0,.slice none 0 0,.slice none 0 0]:=aj.iH 14 ⟨#[97]⟩ ⟨#[]⟩ ⟨#[]⟩ ⟨DL _ _,Rd.aD _ _ _,Rd.aD _ _ _,Rd.aD _ _ _⟩
theorem l8:Qw.short:=⟨by decide,by decide,by decide,fun _ h=>(by cases h),fun _ h=>(by cases h)⟩
theorem BI (t:ByteArray) (h:t.size<=300):(eTx t).small:=by unfold eTx aj.small aj.ay;exact ⟨h,by decide,by decide,l8,by decide,by decide,fun _ h=>(by cases h),fun _ h=>(by cases h),trivial⟩
theorem Gj:KO.small:=by unfold KO aj.small aj.ay;exact ⟨by decide,by decide,by decide,l8,by decide,by decide,fun _ h=>(by cases h),fun _ h=>(by cases h),trivial⟩
theorem Ji:CQ.small:=by unfold CQ aj.small aj.ay;exact ⟨by decide,by decide,by decide,l8,by decide,by decide,fun _ h=>(by cases h),fun _ h=>(by cases h),trivial⟩
theorem OM:aj.ay eL:=by unfold eL aj.ay aj.ay aj.ay aj.ay;exact ⟨BI _ (by decide),Gj,BI _ (by decide),trivial⟩
theorem OP:aj.ay [CQ]:=by unfold aj.ay aj.ay;exact ⟨Ji,trivial⟩
theorem uq:ah.ay [FI]:=by
 have h1:=l8;have h3:aj.aW []<=120:=by decide +kernel
 have h4:(⟨#[]⟩:ByteArray).size<=300:=by decide
 simp [FI,ah.ay,ah.small,h1,h3,h4,aj.ay]
theorem rC:ah.ay [xA]:=by
 have h1:=l8;have h3:aj.aW []<=120:=by decide +kernel
 have h4:(⟨#[]⟩:ByteArray).size<=300:=by decide
 have h5:(⟨#[120]⟩:ByteArray).size<=300:=by decide
 simp [xA,Kg,ah.ay,ah.small,h1,h3,h4,h5,aj.ay]
def VU (k:Int) (i:ByteArray) (vk:Value):List Value:=[.int .i64 k,.int .i64 0,.string i,.string ⟨#[]⟩,.string ⟨#[]⟩,.string ⟨#[]⟩,.string ⟨#[]⟩,.slice none 0 0,.slice none 0 0,.slice none 0 0,vk]
theorem YD {ok:Nat->Prop} {w:jqz} (k:Int) (i:ByteArray) (ks:List ah) (vk:Value) (h:Rd ok w (bZ ks) [vk]):Rd ok w (ah.mk k 0 i ⟨#[]⟩ ⟨#[]⟩ ⟨#[]⟩ Qw [] ks).d (VU k i vk):=ah.iH k 0 i ⟨#[]⟩ ⟨#[]⟩ ⟨#[]⟩ ⟨DL _ _,Rd.aD _ _ _,h⟩
theorem Ip (k:Int) (i:ByteArray) (ks:List ah) (vk:Value) (w:jqz) (h:Rd (·<w.heap.size) w (bZ ks) [vk]) : Rd (·<(w.alloc (.cells (VU k i vk).toArray 48)).heap.size) (w.alloc (.cells (VU k i vk).toArray 48)) (bZ [.mk k 0 i ⟨#[]⟩ ⟨#[]⟩ ⟨#[]⟩ Qw [] ks]) [.slice (some ⟨w.heap.size,0,none⟩) 1 1]:=by have hb:jr0 w.heap.size w (w.alloc (.cells (VU k i vk).toArray 48)):=(jnk _ _).alloc (jnq _) _;have kk:CB 48 w.heap.size (VU k i vk) (w.alloc (.cells (VU k i vk).toArray 48)):=CB.new _ _ w;exact Rd.OI (l:=[ah.mk k 0 i ⟨#[]⟩ ⟨#[]⟩ ⟨#[]⟩ Qw [] ks].map ah.d) (rows:=[VU k i vk]) (by simp) (by unfold maxLen;decide) (aQ.one (YD k i ks vk (h.up hb))) (by simp [VU]) kk.lt kk.lt (fun j u hu=>kk.cell j u (by simpa using hu))
mutual
theorem ah.Um (cl:ByteArray->Bool):∀ (b:ah) (par:Int) (dp:Nat),b.err cl par dp=0->b.bq.any fu=false->∀ x∈b.each,(∃ d',ah.aR cl x.Rv d' x.kids=0)/\(ah.bg x.kids).any fu=false/\ah.aW x.kids<=b.sz
 | .mk k lv i t d ti a li ks,par,dp,h,hu,x,hx=>by
  obtain ⟨h2,hbf,h3⟩:=gY cl h;rw [ah.bq,List.any_append,Bool.or_eq_false_iff] at hu;rw [ah.each] at hx;rw [ah.sz];rcases List.mem_cons.1 hx with rfl | hx
  ·exact ⟨⟨dp+1,h3⟩,hu.2,by show ah.aW ks<=_;omega⟩
  ·obtain ⟨g1,g2,g3⟩:=ah.yN cl ks k (dp+1) h3 hu.2 x hx;exact ⟨g1,g2,by omega⟩
theorem ah.yN (cl:ByteArray->Bool):∀ (l:List ah) (par:Int) (dp:Nat),ah.aR cl par dp l=0->(ah.bg l).any fu=false->∀ x∈ah.aI l,(∃ d',ah.aR cl x.Rv d' x.kids=0)/\(ah.bg x.kids).any fu=false/\ah.aW x.kids<=ah.aW l
 | [],_,_,_,_,x,hx=>by rw [ah.aI] at hx;cases hx
 | y::l,par,dp,h,hu,x,hx=>by
  rw [ah.aR] at h;rw [ah.bg,List.any_append,Bool.or_eq_false_iff] at hu;rw [ah.aI] at hx;rw [ah.aW];by_cases h1:y.err cl par dp≠0
  ·rw [if_pos h1] at h;exact absurd h h1
  ·rw [if_neg h1] at h;rcases List.mem_append.1 hx with hx | hx
   ·obtain ⟨g1,g2,g3⟩:=ah.Um cl y par dp (Classical.not_not.1 h1) hu.1 x hx;exact ⟨g1,g2,by omega⟩
   ·obtain ⟨g1,g2,g3⟩:=ah.yN cl l par dp h hu.2 x hx;exact ⟨g1,g2,by omega⟩
end
theorem Qx (l:List ah) (h:GX l=0) (hsm:ah.ay l) (hz:ah.aW l<=900000):ah.lJ l/\∀ x∈ah.aI l,x.Rv=14->ah.lJ x.kids/\ah.aW x.kids<=900000:=by obtain ⟨h1,h2⟩:=Gi h;have h3:=Ul h;refine ⟨ah.qY qE l 0 0 h1 h3 hsm hz,fun x hx hk=>?_⟩;obtain ⟨⟨d',g1⟩,g2,g3⟩:=ah.yN qE l 0 0 h1 (by rw [ah.lS];exact h2) x hx;rw [hk] at g1;have g4:=(qc (ah.fE l hsm x hx)).1;have g5:=ah.jF qE x.kids 14 d' (by decide) (by decide) g1 g2;exact ⟨ah.qY qE _ 14 d' g1 g5 g4 (by omega),by omega⟩
mutual
theorem Qy:∀ (b:ah),b.each.length=b.sz
 | .mk k lv i t d ti a li ks=>by rw [ah.each,ah.sz,jo3,oK ks];omega
theorem oK:∀ (l:List ah),(ah.aI l).length=ah.aW l
 | []=>by rw [ah.aI,ah.aW];rfl
 | x::l=>by rw [ah.aI,ah.aW,jo1,Qy x,oK l]
end
theorem Jj {x:ah} (h:x.small):x.iOf.size<=300:=by obtain ⟨k,lv,i,t,d,ti,a,li,ks⟩:=x;rw [ah.small] at h;exact h.1
theorem qx:∀ (l:List ah),(l.flatMap gN).length<=l.length
 | []=>by simp
 | x::l=>by
  have h:=qx l;rw [List.flatMap_cons,jo1,jo3];have h2:(gN x).length<=1:=by obtain ⟨k,lv,i,t,d,ti,a,li,ks⟩:=x;unfold gN;dsimp only;split<;>simp
  omega
open Go.RowKit Go.Shelf
attribute [local go_sem] Oper.semAt_some
theorem uT.ok {S Bb N0:Nat} (h1:S<=Bb) (h2:Bb<N0):P8 S (uT Bb N0) where
 below h:=h.below h1 h2
 Zt h hb:=(h.cel _ _ _ _ hb (by decide) (by decide)).trans hb
 YE h hb:=(h.cel _ _ _ _ hb (by decide) (by decide)).trans hb
theorem Xx.BJ {Bb N0:Nat} {L:List Nd} {W W':jqz} {row:Option Nat} (h:Xx Bb N0 L W) (hB:Bb<N0) (hg:W.grownBy W' row) (hr:∀ r,row=some r->N0<=r/\∃ o:Obj,W.heap[r]?=some o/\o.isCells=false):Xx Bb N0 L W':=by obtain ⟨wB,rows,v,h1,h2,h3⟩:=h;refine ⟨wB,rows,v,h1,(h2.BJ hg (fun r e=>⟨by have:=(hr r e).1;omega,(hr r e).2⟩)).up hg.size (jnq _),?_⟩;exact (hg.block Bb h3.lt (fun e=>by have:=(hr Bb e.symm).1;omega)).trans h3
theorem Jk {c:Code} {Q:Exit->Act->jqz->Prop} {a:Act} {w:jqz} (h:c.wp Tryz.prog (fun e a w=>(∀ x,e≠Exit.panic x)/\Q e a w) a w):c.wp Tryz.prog Q a w:=Code.wp_mono (fun _ _ _ h=>h.2) h
def Un (b:ah):Prop:=b.iOf.size<=300/\(b.Rv=14->ah.lJ b.kids/\ah.aW b.kids<=900000)
def BV.cs (x:BV):List Value:=[.int .i64 x.kd,.int .i64 x.lv,.string x.i,.string x.t,.string x.d,.string x.ti,.string x.at_.id,x.vc,x.vp,x.vl,x.vk]
def clF (Bb:Nat):Value:=.func (.func 39) #[] #[.pointer (some ⟨Bb,0,none⟩)]
def VW (Bb Bf Bl:Nat) (s o v2:Value) (E:Int) (x:BV) (Bx:Nat):Act:={ tmps:=#[s,undef,.slice none 0 0,.int .i64 0,.int .i64 E,.pointer (some ⟨Bb,0,none⟩),o,.pointer (some ⟨Bf,0,none⟩),.pointer (some ⟨Bx,0,none⟩),s,.int .i64 E,.int .i64 E,.bool false,undef,s,v2,.bool false,s,o,clF Bb,s,.func (.func 87) #[] #[.pointer (some ⟨Bl,0,none⟩)],x.enc,undef,undef,undef,undef,undef,undef,undef,undef,undef,undef,undef,undef,undef,undef,undef,undef,undef,undef,undef,undef,undef],defers:=[] }
def BtX (N0 Bb Bf Bl:Nat) (s o v2:Value) (E:Int) (x:BV) (a':Act) (W:jqz):Prop:=∃ Bx,N0<=Bx/\CB 48 Bx x.cs W/\a'=VW Bb Bf Bl s o v2 E x Bx
theorem BtX.own {N0 Bb Bf Bl B:Nat} {s o v2:Value} {E:Int} {x:BV} {a':Act}:OwnFrom B (fun (_:Unit) W=>BtX N0 Bb Bf Bl s o v2 E x a' W):=fun _ W W' row ⟨Bx,h1,h2,h3⟩ hg hr=>
 ⟨Bx,h1,(hg.block Bx h2.lt (fun e=>by
  obtain ⟨_,o,k1,k2⟩:=hr Bx e.symm;unfold CB at h2;rw [h2] at k1;cases k1;cases k2)).trans h2,h3⟩
def VX (Bb N0 S:Nat) (w W0:jqz) (pre:List (BW S w Un)) (W:jqz):Prop:=Xx Bb N0 ((vE pre).flatMap gN) W/\uT Bb N0 W0 W
theorem VX.own {Bb N0 S:Nat} {w W0:jqz} (hB:Bb<N0) (hz:N0=W0.heap.size):OwnFrom N0 (VX Bb N0 S w W0):=fun s W W' row h hg hr=>
 ⟨h.1.BJ hB hg hr,h.2.trans (uT.grown hg (by have:=h.2.size;omega) hr)⟩
theorem Qz {fn:Func} {R:Ending->jqz->Prop} {a:Act} {w:jqz} {v:Value} (hd:a.defers=[]) (hr:(results fn a.tmps).run Tryz.prog w=.ok v w) (h:R (.returned v) w):bodyPostM Fence.wide 3 Tryz.prog fn R .ret a w:=by show LeavesInM _ _ _ _ _ _ a.defers _ _;rw [hd];unfold LeavesInM LeavesIn;exact ⟨v,hr,h⟩
theorem QA {n:Nat} {fn:Func} {R:Ending->jqz->Prop} {a:Act} {w:jqz} {v:Value} {D:Nat} (hd:a.defers=[{ target:=.collected D,args:=#[] }]) (hf:w.heap[D]?=some (.deferred (some []))) (hr:∀ w',(results fn a.tmps).run Tryz.prog w'=.ok v w') (h:R (.returned v) (w.putObj D (.deferred none))):bodyPostM Fence.wide n Tryz.prog fn R .ret a w:=by show LeavesInM _ _ _ _ _ _ a.defers _ _;rw [hd];refine ⟨by simp,.inl ⟨D,_,rfl,run_takeDeferred hf,?_⟩⟩;exact ⟨v,hr _,h⟩
theorem bO.jd7 {w W:jqz} {E:Nat} {L:List Nd} {v:Value} {D:Nat} (h:bO w E L (.returned v) W) (hD:w.heap.size<=D) (hf:W.heap[D]?=some (.deferred (some []))):bO w E L (.returned v) (W.putObj D (.deferred none)):=by obtain ⟨rows,v',he,hr⟩:=h;have hg:=grownBy_putObj' W D (.deferred none);exact ⟨rows,v',he,(hr.BJ hg (fun r e=>by cases e;exact ⟨hD,_,hf,rfl⟩)).up hg.size (jnq _)⟩
theorem CO (l:List ah) (v:Value) (w:jqz) (hrd:Rd (·<w.heap.size) w (bZ l) [v]) (hsm:ah.ay l) (hsz:ah.aW l<=900000) (hil:(ah.aM l).length<=1000) (hbd:ah.sj l) (ht:PT w) : Calls Tryz.prog 13 #[v] w (bO w (GX l) (Vp l)):=by
 obtain ⟨iN,GR,oQ,oV,oW⟩:=info_parts nM;obtain ⟨a,cap,hv,-⟩:=Rd.aC hrd;obtain ⟨nl,hnl⟩:∃ nl,nl=l.length:=⟨_,rfl⟩;obtain rfl:v=.slice a nl cap:=by rw [hnl];simpa using hv
 have LC:=tQ qE l a cap w hsm (fun _=>FH) (by rw [<- hnl];exact hrd);rw [<- hnl] at LC;have mX:=hid LC;clear hv LC hnl;obtain ⟨S,hS⟩:∃ S,S=w.heap.size:=⟨_,rfl⟩;have TQ:=hid hrd;have jO:=hid hsm;have qX:Hid (∀ W:jqz,jr0 S w W->PT W):=fun W hW=>ht.below (by rw [<- hS];exact hW)
 have hee:GX l=if ah.aR qE 0 0 l≠0 then ah.aR qE 0 0 l else if (ah.aM l).any fu=true then 5 else 0:=rfl
 have hnn:Vp l=if GX l=0 then eB l else []:=rfl
 have HW:=hid (fun h:GX l=0=>Qx l h hsm hsz);have IC:Hid (∀ W:jqz,jr0 S w W->Calls Tryz.prog 37 #[.slice a nl cap] W (fun e w'=>∃ v',e=.returned v'/\Rd (fun _=>True) w' (bq (ah.aM l)) [v']/\jr0 W.heap.size W w')):=fun W hW=>by
  refine (uz l (.slice a nl cap) W (hrd.up (by rw [<- hS];exact hW)) hbd (by omega) (by omega)).mono ?_;rintro e w2 ⟨v2,bE,rfl,hown2,KM,rF,b2⟩;exact ⟨v2,rfl,Rd.jR (by rw [jo2];exact hown2) KM rF (fun _ _=>trivial),b2⟩
 obtain ⟨E0,hE0⟩:∃ E0,E0=ah.aR qE 0 0 l:=⟨_,rfl⟩;obtain ⟨EE,M7⟩:∃ EE,EE=GX l:=⟨_,rfl⟩;obtain ⟨NN,M9⟩:∃ NN,NN=Vp l:=⟨_,rfl⟩;rw [<- hE0] at mX hee;rw [<- M7] at hee hnn HW;rw [<- M9] at hnn;rw [<- M7,<- M9];have SK:=hid hee;have YC:=hid hnn;have HS:=hid hS;clear hrd hee hnn hE0 M7 M9 ht hS;refine (callsIn_wide (n:=3)).1 ?_;refine callsIn_of_wp_marks Tryz.func13 rfl trivial ?_ rfl;simp only [Tryz.ntmps13,List.size_toArray,jo3,List.length_nil,Nat.reduceAdd,Nat.reduceSub,Array.replicate_succ,Array.replicate_zero,List.push_toArray,List.append_toArray,List.nil_append,List.cons_append];refine wpIn_wide.2 ?_;go_wp2_with fail
 (with_reducible refine mX.out.mono ?_)
 rintro e w1 ⟨rfl,b1⟩;have B1:Hid (jr0 S w w1):=by rw [HS.out];exact b1
 clear b1 mX;by_cases h0:E0=0
 ·have q1:((E0:Int) != 0)=false:=by rw [h0];rfl
  have Jh:Hid (EE=if (ah.aM l).any fu=true then 5 else 0):=by show _=_;rw [SK.out,if_neg (by simp [h0])]
  have IL:=hid (IC.out w1 B1.out);clear h0;go_wp2_with fail
  (with_reducible refine IL.out.mono ?_)
  rintro e w2 ⟨v2,rfl,F5,b2⟩;have UL:=hid (wh (ah.aM l) _ v2 w2 F5);obtain ⟨a2,n2,c2,rfl⟩:=Rd.au F5;have B2:=hid (B1.out.trans (b2.mono (by have:=B1.out.size;have:=HS.out;omega)));clear F5 b2 IL;go_wp2_with fail
  (with_reducible refine UL.out.mono ?_)
  rintro e w3 ⟨rfl,b3⟩;have B3:=hid (B2.out.trans (b3.mono (by have:=B2.out.size;have:=HS.out;omega)));obtain ⟨u,hu⟩:∃ u,u=(ah.aM l).any fu:=⟨_,rfl⟩;rw [<- hu] at Jh;rw [<- hu];clear b3 UL hu;cases u with
  | true=>
   have HF:Hid (bO w EE NN (.returned (.tuple #[.slice none 0 0,.int .i64 5])) w3):=by
    have h5:EE=5:=by rw [Jh.out];rfl
    rw [h5];exact bO.nil (by rw [YC.out,h5];rfl) (by rw [<- HS.out];exact B3.out)
   go_wp2;exact Qz rfl (by simp [results,Tryz.results13,go_sem]) HF.out
  | false=>
   have hE:EE=0:=by rw [Jh.out];rfl
   obtain ⟨hw1,hw3⟩:=HW.out hE;have Rp:=hid (show NN=eB l by rw [YC.out,hE];rfl);have HE:=hid hE;have HWN:=hid (show ∀ b∈ah.aI l,Un b from fun b hb=>⟨Jj (ah.fE l jO.out b hb),fun hk=>hw3 b hb hk⟩);have HEL:=hid (show (ah.aI l).length<=900000 by rw [oK];exact hsz);have SB:=hid (show (ah.aS l).length<=900000 from Nat.le_trans (wV l) (Nat.le_trans (ah.iZ l) hsz));obtain ⟨Bb,hBb⟩:∃ Bb,Bb=w3.heap.size:=⟨_,rfl⟩;obtain ⟨w4,hw4⟩:∃ w4,w4=w3.alloc (.cells #[.slice none 0 0] 75):=⟨_,rfl⟩;have k4:aF Bb (.slice none 0 0) 75 w4:=by rw [hw4,hBb];exact aF.new _ _ _
   have b4:jr0 S w w4:=by rw [hw4];exact B3.out.alloc (by have:=B3.out.size;have:=HS.out;omega) _
   have hSB:S<=Bb:=by have:=B3.out.size;have:=HS.out;omega
   have z4:w4.heap.size=Bb+1:=by rw [hw4,jo9,hBb]
   have HC:=hid (ug (.pointer (some ⟨Bb,0,none⟩)) 900000 l (.slice a nl cap) w4 hsz (by omega) (TQ.out.up (by rw [<- HS.out];exact b4)) hw1 (qX.out w4 b4));have K4:=hid k4;have B4:=hid b4;have Z4:=hid z4;clear hE hw1 hw3 k4 b4 z4;go_upto_region 7 with (fail)
   rw [<- hw4,<- hBb];clear hw4 hBb;go_wp2_with fail
   (with_reducible refine HC.out.mono ?_)
   rintro e w5 ⟨Ar,v5,rfl,cu⟩;obtain ⟨n5,Vw⟩:∃ n5,n5=((ah.aS l).map Nd.d).length:=⟨_,rfl⟩;have jmq:n5<=900000:=by rw [Vw,jo2];exact SB.out
   obtain ⟨a5,c5,rfl,-,-⟩:=cu.cap Vw.symm;have HN5:=hid Vw.symm;have VY:=hid cu;have B45:=hid cu.aN;clear cu Vw HC;obtain ⟨Bf,hBf⟩:∃ Bf,Bf=w5.heap.size:=⟨_,rfl⟩;obtain ⟨w6,mJ⟩:∃ w6,w6=w5.alloc (.cells #[clF Bb] 79):=⟨_,rfl⟩;obtain ⟨W0,hW0⟩:∃ W0,W0=w6.alloc (.cells #[.slice a nl cap] 22):=⟨_,rfl⟩;have z6:w6.heap.size=Bf+1:=by rw [mJ,jo9,hBf]
   have zz:W0.heap.size=Bf+2:=by rw [hW0,jo9,z6]
   have jiz:=B45.out.size;have jmx:Bb<Bf:=by have:=Z4.out;omega
   have g5:jr0 w5.heap.size w5 W0:=by rw [hW0,mJ];exact ((jnk _ _).alloc (jnq _) _).alloc (by rw [jo9];omega) _
   have bF:aF Bf (clF Bb) 79 W0:=by rw [hW0,mJ,hBf];exact (aF.new _ _ _).alloc _
   have bL:aF (Bf+1) (.slice a nl cap) 22 W0:=by rw [hW0,<- z6];exact aF.new _ _ _
   have bB:aF Bb (.slice none 0 0) 75 W0:=(K4.out.below (B:=w4.heap.size) (by have:=Z4.out;omega) B45.out).below (B:=w5.heap.size) (by omega) g5;have bl0:jr0 S w W0:=(B4.out.trans (B45.out.mono (by have:=Z4.out;omega))).trans (g5.mono (by have:=Z4.out;omega));have HR5:=hid (VY.out.below g5);have hU5:w5.heap.size=Bf:=hBf.symm;have N0:VX Bb W0.heap.size S w W0 [] W0:=⟨⟨W0,[],.slice none 0 0,rfl,aH.nil _ _ _ _,bB⟩,uT.refl _ _ _⟩;have HFB:=hid (show aF Bf (clF Bb) 79 W0 from bF);have hnf:∀ (x:Nat) (wx:jqz),Sem.run Tryz.prog (binOp BinOp.eql 81 (Value.func (Fn.func 87) #[] #[Value.pointer (some ⟨x,0,none⟩)]) Value.nilFunc) wx=.ok (.bool false) wx:=fun x wx=>by rfl
   have HBS:=hid (show Rd (·<S) w (bZ l) [.slice a nl cap] by rw [HS.out];exact TQ.out);have EC:=hid (Qa a nl cap w6);rw [<- hW0,z6] at EC;have HU5:=hid hU5;have HZZ:=hid zz;clear bF bB g5 z6 jiz VY hU5 hW0;have jd8:clF Bb=.func (.func 39) #[] #[.pointer (some ⟨Bb,0,none⟩)]:=rfl;rw [jd8] at mJ;go_upto_region 9 with (fail)
   rw [<- mJ,<- hBf];clear mJ hBf jd8;go_wp2_with fail
   (with_reducible refine EC.out.mono ?_)
   rintro e w7 ⟨rfl,hw7⟩;rw [hw7];clear EC hw7 w7;go_wp2_with fail
   obtain ⟨s0,hs0⟩:∃ s0,s0=Value.slice a nl cap:=⟨_,rfl⟩;have hN0:W0.heap.size=Bf+2:=HZZ.out;have hBN:Bb<W0.heap.size:=by omega
   refine wpIn_wide (n:=3) |>.1 ?_
   refine wpIn_rangeFunc_ownH (α:=BW S w Un) rfl (by decide) (gf:=87) (lb:=#[.pointer (some ⟨Bf+1,0,none⟩)]) rfl trivial (enters_of Tryz.func87 (by kernel_rfl) rfl)
    (I5 2 (Bf+1) S Un l (.slice a nl cap) w W0 (uT Bb W0.heap.size) (uT.ok hSB hBN) HWN.out HBS.out bl0 (by omega) bL) (fun h k=>h.trans k) (fun W l o o' h1 h2 h3 _=>uT.obj Bb W0.heap.size W l o o' h1 h2 h3) (jnk _ _) (fun _=>rfl)
    (VX Bb W0.heap.size S w W0) (fun _ _ _=>False) (VX.own hBN rfl) (fun c s A B row h _ _=>h) N0
    (fun x a' W=>BtX W0.heap.size Bb Bf (Bf+1) (.slice a nl cap) (.slice a5 n5 c5) (.slice a2 n2 c2) (E0:Int) x.1 a' W) (fun x a'=>BtX.own) ?assign ?body ?done ?stop
   case stop=>rintro D c pre W _ _ h _;exact h.elim
   case assign=>
    rintro l0 pre ⟨⟨kd,lv,i,t,d,ti,at_,li,ks,vc,vp,vl,vk⟩,hR,jmz⟩ W K hi hK;dsimp only at hR hK;obtain ⟨ac,nc,cc,rfl⟩:=Rd.au hR.at_.cls
    obtain ⟨ap,np,cp,rfl⟩:=Rd.au hR.at_.aP
    obtain ⟨al,nl2,cl,rfl⟩:=Rd.au hR.line;obtain ⟨ak,nk,ck,rfl⟩:=Rd.au hR.kids;have HI:=hid hi;have HK:=hid hK;clear hi hK;dsimp only [BV.enc]
    gi_wp2
    have hsz:=HI.out.2.size;exact HK.out _ _ ((KeepsOthers.alloc _ _).from _) (uT.grown (World.grownBy_alloc _ _ none) hsz (fun r e=>by cases e)) ⟨HI.out.1.BJ hBN (World.grownBy_alloc _ _ none) (fun r e=>by cases e),HI.out.2.trans (uT.grown (World.grownBy_alloc _ _ none) hsz (fun r e=>by cases e))⟩ ⟨W.heap.size,hsz,heap_alloc_new W _,rfl⟩
   case body=>
    rintro l0 pre x a' W hl0 _ hN ⟨Bx,hBx,KR,rfl⟩ hlen;have hR:=x.2.1;have VZ:=x.2.2;obtain ⟨y,hy⟩:∃ y,y=x.1:=⟨_,rfl⟩;rw [<- hy] at hR KR VZ ⊢;have HEQ:Hid ((vE (pre++[x])).flatMap gN=(vE pre).flatMap gN++gN y.blk):=by show _=_;rw [jU,List.flatMap_append,hy];show _++List.flatMap gN [x.1.blk]=_;rw [List.flatMap_cons,List.flatMap_nil,jqk]
    have jd9:((vE pre).flatMap gN).length<=1000000:=by have h1:=qx (vE pre);rw [yO] at h1;have:=HEL.out;omega
    obtain ⟨kd,lv,i,t,d,ti,at_,li,ks,vc,vp,vl,vk⟩:=y;dsimp only at hR;have VZ:i.size<=300/\(kd=14->ah.lJ ks/\ah.aW ks<=900000):=VZ;obtain ⟨ac,nc,cc,rfl⟩:=Rd.au hR.at_.cls
    obtain ⟨ap,np,cp,rfl⟩:=Rd.au hR.at_.aP
    obtain ⟨al,nl2,cl,rfl⟩:=Rd.au hR.line;obtain ⟨ak,nk,ck,rfl⟩:=Rd.au hR.kids;have c0:=KR.cell 0 _ rfl;have hSW:=hN.2.size;have hbW:jr0 S w W:=bl0.trans (hN.2.below (S:=S) hSB hBN);have HN:=hid hN;dsimp only at c0;clear hlen hy hN;unfold VW;dsimp only [BV.enc];by_cases hk:kd=14
    ·subst hk;have q1:((14:Int)==14)=true:=rfl;have c1:=KR.cell 1 _ rfl;have c2:=KR.cell 2 _ rfl;have c3:=KR.cell 3 _ rfl;have c4:=KR.cell 4 _ rfl;have c5:=KR.cell 5 _ rfl;have c6:=KR.cell 6 _ rfl;have c7:=KR.cell 7 _ rfl;have c8:=KR.cell 8 _ rfl;have c9:=KR.cell 9 _ rfl;have c10:=KR.cell 10 _ rfl;dsimp only at c1 c2 c3 c4 c5 c6 c7 c8 c9 c10;have bxF:W.cell? ⟨Bf,0,none⟩=some (.func (.func 39) #[] #[.pointer (some ⟨Bb,0,none⟩)]):=aF.cell (t:=79) ((HN.out.2.blk Bf (by omega) (by omega)).trans HFB.out);have hCA:=FD Bb W0.heap.size ((vE pre).flatMap gN) 14 lv i t d ti at_ li ks (.slice ac nc cc) (.slice ap np cp) (.slice al nl2 cl) (.slice ak nk ck) W hBN (hR.Fp (fun b (hb:b<S) hlt=>⟨by omega,hbW.block b hb⟩)) (VZ.2 rfl).1 (VZ.2 rfl).2 VZ.1 (qX.out W hbW) jd9 HN.out.1
     have HCA:=hid hCA;have hno:gN (BV.blk ⟨14,lv,i,t,d,ti,at_,li,ks,.slice ac nc cc,.slice ap np cp,.slice al nl2 cl,.slice ak nk ck⟩)=[aO mH [⟨jZ,bY++i⟩,⟨eX,dK⟩] (ah.aS ks)]:=rfl;have Rf:=hid hno;clear hno hCA KR hR VZ
     gi_wp2_with fail
     refine ⟨trivial,?_⟩;refine (CallsIn.inRound l0 (callsIn_wide.2 HCA.out)).mono ?_;rintro e W2 ⟨rfl,hBu,hKp,hSt⟩;have HP:Hid (VX Bb W0.heap.size S w W0 (pre++[x]) W2):=by refine ⟨?_,HN.out.2.trans hKp⟩;rw [HEQ.out,Rf.out];exact hBu
     have HKF:Hid (KeepsFrom W0.heap.size W W2):=⟨hKp.size,fun k o hk' ho hc=>hSt k o ho hc⟩;have Zu:=hid hKp;clear hBu hKp hSt c0 c1 c2 c3 c4 c5 c6 c7 c8 c9 c10 bxF HCA;dsimp only
     gi_wp2
     exact ⟨HKF.out,Zu.out,HP.out⟩
    ·have q1:(kd==14)=false:=by rw [beq_eq_false_iff_ne];exact hk
     have HP:Hid (VX Bb W0.heap.size S w W0 (pre++[x]) W):=by
      have hno:gN (BV.blk ⟨kd,lv,i,t,d,ti,at_,li,ks,.slice ac nc cc,.slice ap np cp,.slice al nl2 cl,.slice ak nk ck⟩)=[]:=by show gN (.mk kd lv i t d ti at_ li ks)=_;unfold gN;exact if_neg hk
      refine ⟨?_,HN.out.2⟩;rw [HEQ.out,hno,jqk];exact HN.out.1
     clear hk KR hR VZ
     gi_wp2
     exact ⟨(KeepsOthers.refl _).from _,uT.refl _ _ _,HP.out⟩
   case done=>
    rintro D pre W hD hpre hN hK;rw [VX,hpre] at hN;obtain ⟨⟨wB,rows,vN,Vi,hrow,hbx⟩,hkp⟩:=hN;have hnt:(ah.aI l).flatMap gN=ig l:=rfl;rw [hnt] at hrow;obtain ⟨m,hm⟩:∃ m,m=((ig l).map Nd.d).length:=⟨_,rfl⟩;have hm1:m<=900000:=by rw [hm,jo2];exact Nat.le_trans (qx (ah.aI l)) HEL.out
    obtain ⟨av,cv,rfl,-,-⟩:=hrow.cap hm.symm;have hbl:jr0 S w W:=bl0.trans (hkp.below (S:=S) hSB hBN);have hDW:D<W.heap.size:=(Array.getElem?_eq_some_iff.1 hK).1;have hBZ:w5.heap.size=Bf:=HU5.out;obtain ⟨wO,hzO,hrO⟩:=HR5.out.reU (w':=W) hkp.size (fun b h1 h2=>hkp.blk b (by omega) (by have:=Z4.out;omega));have HO:=hid hrO;have HZO:=hid hzO;have HK:=hid hK;have D5:=hid hbl;have bU:=hid hrow;have Ej:=hid Vi;have HSW:=hid hkp.size;have x0:=hbx.cell;have Zv:Hid (∀ y:jqz,jr0 W.heap.size W y->y.cell? ⟨Bb,0,none⟩=some (.slice av m cv)):=fun y hy=>(hbx.below (by have:=hkp.size;omega) hy).cell
    have hml:(ig l).length=m:=by rw [hm,jo2]
    have HML:=hid hml;clear hrO hzO hK hbl hrow Vi hbx hpre hm hkp hml hnt;by_cases hm0:m=0
    ·have q8:¬ (0:Int)<(m:Int):=by omega
     have HF:Hid (bO w EE NN (.returned (.tuple #[.slice a5 n5 c5,.int .i64 0])) W):=by
      have M9:NN=ah.aS l:=by rw [Rp.out];unfold eB;rw [if_pos (by rw [List.isEmpty_iff,<- List.length_eq_zero_iff,HML.out];exact hm0),jqk]
      rw [HE.out,M9];exact ⟨_,_,rfl,(HO.out.sG (by have:=HZO.out;have:=HS.out;have:=Z4.out;omega) (by rw [<- HS.out];exact D5.out)).top⟩
     have HF2:=hid (HF.out.jd7 (by have:=HS.out;omega) HK.out);clear HF;go_wp2;exact QA rfl HK.out (fun w'=>by simp [results,Tryz.results13,go_sem]) HF2.out
    ·have q8:(0:Int)<(m:Int):=by omega
     have M9:NN=ah.aS l++[aO iM [⟨eX,je⟩] (ig l)]:=by rw [Rp.out];unfold eB;rw [if_neg (by rw [List.isEmpty_iff,<- List.length_eq_zero_iff,HML.out];exact hm0)]
     have jj0:=hid M9;clear M9;go_upto_region 14 with (fail)
     refine Jk ?_;refine M4 9 (fun w'=>w'.cell? ⟨Bb,0,none⟩=some (.slice av m cv)) (by kernel_rfl) (Zv.out W.drew (jnk _ _).drew) ?_;intro hH;refine gq (i:=0) (v:=?_) rfl (by kernel_rfl) (by kernel_rfl) (by kernel_rfl) (by kernel_rfl) (by kernel_rfl) (fun _ _ _ h=>absurd rfl (h.1 _)) hH (Or.inl ⟨by rfl,?_⟩) ?_;rotate_left
     ·(intro wv hSw;(try dsimp only at hSw);go_simp;try with_reducible rfl)
     refine gq (i:=3) (v:=?_) rfl (by kernel_rfl) (by kernel_rfl) (by kernel_rfl) (by kernel_rfl) (by kernel_rfl) (fun _ _ _ h=>absurd rfl (h.1 _)) hH (Or.inl ⟨by rfl,?_⟩) ?_;rotate_left
     ·(intro wv hSw;(try dsimp only at hSw);go_simp;try with_reducible rfl)
     refine gq (i:=4) (v:=?_) rfl (by kernel_rfl) (by kernel_rfl) (by kernel_rfl) (by kernel_rfl) (by kernel_rfl) (fun _ _ _ h=>absurd rfl (h.1 _)) hH (Or.inl ⟨by rfl,?_⟩) ?_;rotate_left
     ·(intro wv hSw;(try dsimp only at hSw);go_simp;try with_reducible rfl)
     refine gq (i:=5) (v:=?_) rfl (by kernel_rfl) (by kernel_rfl) (by kernel_rfl) (by kernel_rfl) (by kernel_rfl) (fun _ _ _ h=>absurd rfl (h.1 _)) hH (Or.inl ⟨by rfl,?_⟩) ?_;rotate_left
     ·(intro wv hSw;(try dsimp only at hSw);go_simp;try with_reducible rfl)
     obtain ⟨y0,hy0⟩:∃ y0,y0=W.drew:=⟨_,rfl⟩;have B0y:jr0 W.heap.size W y0:=by rw [hy0];exact (jnk _ _).drew
     rw [<- hy0] at hH;rw [<- hy0];clear hy0;have PC:Hid (Calls Tryz.prog 41 #[.slice (some ⟨y0.heap.size,0,none⟩) 2 2] (y0.alloc (.cells #[.string ⟨#[99,108,97,115,115]⟩,.string ⟨#[110,111,116,101,115]⟩] 9)) (bI (y0.alloc (.cells #[.string ⟨#[99,108,97,115,115]⟩,.string ⟨#[110,111,116,101,115]⟩] 9)) [⟨eX,je⟩])):=RZ eX je y0;refine dO (i:=1) rfl (by kernel_rfl) (fun KQ hK=>?_);go_simp;have B1:jr0 W.heap.size W (y0.alloc (.cells #[.string ⟨#[99,108,97,115,115]⟩,.string ⟨#[110,111,116,101,115]⟩] 9)):=B0y.alloc B0y.size _;refine hK.out _ _ (fun _ _=>Zv.out _ B1) (fun hH2=>?_);clear hK KQ hH;have hH:=hH2 (by decide) (by kernel_rfl);clear hH2;refine dO (i:=2) rfl (by kernel_rfl) (fun KQ hK=>?_);go_simp;go_at_call 41
     (with_reducible refine (PC.out).mono ?_)
     rintro e y2 ⟨bE,v2,rfl,hrow2⟩;obtain ⟨a9,c9,rfl,-,-⟩:=hrow2.cap (n:=1) rfl;have B2:jr0 W.heap.size W y2:=B1.trans (hrow2.aN.mono B1.size);have PR2:=hid (show Rd (W.heap.size<=·) y2 (bD [⟨eX,je⟩]) [.slice a9 1 c9] from hrow2.eP.weaken (fun b hb=>Nat.le_trans B1.size hb));clear hrow2 PC;refine hK.out _ _ (fun _ _=>Zv.out _ B2) (fun hH2=>?_);clear hK KQ hH;have hH:=hH2 (by decide) (by kernel_rfl);clear hH2;refine dO (i:=6) rfl (by kernel_rfl) (fun KQ hK=>?_);go_simp;go_at_call 40
     (with_reducible refine (lD ⟨#[115,101,99,116,105,111,110]⟩ a9 av 1 m c9 cv y2).mono ?_)
     rintro e y3 ⟨rfl,hb⟩;have B3:jr0 W.heap.size W y3:=B2.trans (hb.mono B2.size);have XD:=hid (show Rd (fun b=>False\/w5.heap.size<=b) y3 (aO iM [⟨eX,je⟩] (ig l)).d [.string ⟨#[115,101,99,116,105,111,110]⟩,.string ⟨#[]⟩,.slice a9 1 c9,.slice av m cv] from (Nd.iH ⟨#[115,101,99,116,105,111,110]⟩ ⟨#[]⟩ ⟨(PR2.out.aV hb).weaken (fun b (hb:W.heap.size<=b)=>by have:=HSW.out;show w5.heap.size<=b;omega),(bU.out.eP.aV B3).weaken (fun b (hb:wB.heap.size<=b)=>by have:=Ej.out;show w5.heap.size<=b;omega)⟩).weaken (fun b hb=>.inr hb));have U3:=hid (HO.out.below B3);have K3:=hid (show y3.heap[D]?=some (.deferred (some [])) from (B3.block D hDW).trans HK.out);have hD3:D<y3.heap.size:=Nat.lt_of_lt_of_le hDW B3.size;clear hb;refine hK.out _ _ (fun _ _=>Zv.out _ B3) (fun hH2=>?_);clear hK KQ hH;have hH:=hH2 (by decide) (by kernel_rfl);clear hH2;refine dO (i:=7) rfl (by kernel_rfl) (fun KQ hK=>?_);go_simp;refine hK.out _ _ (fun _ _=>Zv.out _ (B3.alloc B3.size _)) (fun hH2=>?_);clear hK KQ hH;have hH:=hH2 (by decide) (by kernel_rfl);clear hH2;refine dO (i:=8) rfl (by kernel_rfl) (fun KQ hK=>?_);refine wE (n:=n5) rfl (.tmp 34) (.tmp 41) 28 rfl iN _ 80 Tryz.underlying28 GR oQ oV oW rfl (by decide) U3.out (fun _=>False.elim) (aO iM [⟨eX,je⟩] (ig l)).d [.string ⟨#[115,101,99,116,105,111,110]⟩,.string ⟨#[]⟩,.slice a9 1 c9,.slice av m cv] XD.out rfl kE HN5.out (by omega) (by decide) rfl rfl ?_;intro a6 c6 w8 jk hg8;have hoD:some D≠(Value.slice a5 n5 c5).ownBlock:=fun e=>by have:=U3.out.oU D e.symm;omega
     have K8:w8.heap[D]?=some (.deferred (some [])):=(hg8.block D (by rw [jo9];omega) hoD).trans ((Below.heap_alloc y3 _ D hD3).trans K3.out);have B8:jr0 w.heap.size w w8:=by have h1:jr0 S wO w8:=jk.aN.mono (by have:=HZO.out;have:=Z4.out;omega);have h2:jr0 S w y3:=D5.out.trans (B3.mono (by have:=D5.out.size;have:=HS.out;omega));rw [<- HS.out];exact (h2.alloc (by have:=h2.size;have:=HS.out;omega) _).grown hg8 (by rw [jo9];have:=h2.size;have:=HS.out;omega) (fun j hj=>by have:=U3.out.own.lt j hj;have:=HZO.out;have:=Z4.out;omega)
     have HF:bO w EE NN (.returned (.tuple #[.slice a6 (n5+1) c6,.int .i64 0])) w8:=by rw [HE.out,jj0.out];refine ⟨Ar++[[.string ⟨#[115,101,99,116,105,111,110]⟩,.string ⟨#[]⟩,.slice a9 1 c9,.slice av m cv]],_,rfl,?_⟩;rw [List.map_append];exact jk.sG (by have:=HZO.out;have:=HS.out;have:=Z4.out;omega) B8
     have HF2:=hid (HF.jd7 (by have:=HS.out;omega) K8);have HK8:=hid K8;have cb8:w8.cell? ⟨Bb,0,none⟩=some (.slice av m cv):=by
      have hBl:Bb<y3.heap.size:=by omega
      rw [jG (hg8.block Bb (by rw [jo9];omega) (fun e=>by have:=(U3.out.own.lt Bb e.symm).1;have:=HZO.out;have:=Z4.out;omega))];exact Zv.out _ (B3.alloc B3.size _)
     clear jk hg8 HF B8 K8 hoD;refine hK.out _ _ (fun _ _=>cb8) (fun hH2=>?_);clear hK KQ hH;have hH:=hH2 (by decide) (by kernel_rfl);clear hH2;refine dO (i:=9) rfl (by kernel_rfl) (fun KQ hK=>?_);go_simp;refine hK.out _ _ (fun h=>absurd rfl h) (fun _=>?_);clear hK KQ hH;refine Fx (by kernel_rfl) ?_ _;refine ⟨fun _ h=>(by cases h),?_⟩;clear XD U3 PR2;go_wp2;exact QA rfl HK8.out (fun w'=>by simp [results,Tryz.results13,go_sem]) HF2.out
 ·have q1:((E0:Int) != 0)=true:=by rw [bne_iff_ne];omega
  have HF:Hid (bO w EE NN (.returned (.tuple #[.slice none 0 0,.int .i64 (E0:Int)])) w1):=by
   have h5:EE=E0:=by rw [SK.out,if_pos (by simpa using h0)]
   rw [h5];exact bO.nil (by rw [YC.out,h5,if_neg h0]) (by rw [<- HS.out];exact B1.out)
  clear h0;go_wp2;exact Qz rfl (by simp [results,Tryz.results13,go_sem]) HF.out
mutual
theorem ah.ei:∀ b:ah,∀ x∈b.each,(ah.aI x.kids).length<=b.each.length/\(ah.aM x.kids).length<=b.inls.length
 | .mk k lv i t d ti a li ks,x,hx=>by
  rw [ah.each] at hx ⊢;rw [ah.inls,jo3,jo1];rcases List.mem_cons.1 hx with rfl | hx
  ·exact ⟨by show (ah.aI ks).length<=_;omega,by show (ah.aM ks).length<=_;omega⟩
  ·have:=ah.eiL ks x hx;omega
theorem ah.eiL:∀ l:List ah,∀ x∈ah.aI l,(ah.aI x.kids).length<=(ah.aI l).length/\(ah.aM x.kids).length<=(ah.aM l).length
 | [],x,hx=>by rw [ah.aI] at hx;cases hx
 | b::l,x,hx=>by
  rw [ah.aI] at hx ⊢;rw [ah.aM,jo1,jo1];rcases List.mem_append.1 hx with hx | hx
  ·have:=ah.ei b x hx;omega
  ·have:=ah.eiL l x hx;omega
end
end Go.Proofs.YtkfnkeflalcphaaGreatDoor

