/- Contracts of html.Line and publisherref34.Line. Plain part: the errors and the nodes of Blocks and Page; the small case of layer 34. What the statements of layer 34 share: text, same, has; Small at a document with one block that has a line only. Plain part: the notes of a well-formed document: what the walks ask of their blocks. Contract of html.Blocks: the nodes of blocks, with their notes behind them, or the error. Contract of html.Page: the page of a document, or the error. Plain part: what the walk of publisherref34.block asks of a block; a well-formed, small document without unresolved inlines has it. Plain part: what the walk of the reference asks of the blocks of a well-formed document, and of its notes. -/
import Derived.Test.YtklhajbpfelliaaGreatDoorKRpF
import Derived.Test.YtklhajbpfelliaaGreatDoorKHtY
import Derived.Test.YtklhajbpfelliaaGreatDoorKHrK
set_option maxHeartbeats 8000000
set_option maxRecDepth 100000
open Go.Lib (hid)
namespace Go.Proofs.YtklhajbpfelliaaGreatDoor
open Go.Proofs.Tryz
open Go.RowKit.Below renaming refl->jFj
open Nat renaming le_refl->jFk,le_trans->jFq
open List renaming length_map->jG1,append_nil->jI9
open Go.World renaming size_alloc->jG8
open Go renaming World->jIq,Value->jIz
open Go.RowKit renaming Below->jIx
open Go.RowKit
set_option linter.unusedVariables false
set_option linter.unusedSimpArgs false
def lnE (l:List aj):Nat:=if pO l≠0 then pO l else if jH l=true then 5 else 0
def lnN (l:List aj):List Nd:=if lnE l=0 then dV l else []
def bM (w:jIq) (E:Nat) (L:List Nd) (e:Ending) (w':jIq):Prop:=
 ∃ rows v,e=.returned (.tuple #[v,.int .i64 (E:Int)])/\aG 30 4 (fun _=>False) w'.heap.size w (L.map Nd.d) rows v w'
theorem bM.nil {w w':jIq} {E:Nat} {L:List Nd} (hL:L=[]) (h:jIx w.heap.size w w'):bM w E L (.returned (.tuple #[.slice none 0 0,.int .i64 (E:Int)])) w':=by subst hL;exact ⟨[],_,rfl,((aG.nil _ _ _ w).below h).top⟩
def lnB (l:List aj):ah:=.mk 1 0 ⟨#[]⟩ ⟨#[]⟩ ⟨#[]⟩ ⟨#[]⟩ ⟨⟨#[]⟩,[],[]⟩ l []
theorem IV (l:List aj):ah.aR [lnB l]=aj.aS l:=by rw [ah.aR,ah.aR,jI9,lnB,ah.inls,ah.aR,jI9]
mutual
theorem aj.jq6:∀ (x:aj),x.src->x.cf
 | .mk k t d ti a ar ci ks,h=>by
  rw [aj.src] at h;rw [aj.cf];refine ⟨?_,aj.FI ks h.2⟩;have h1:=h.1;unfold oV at h1;split at h1
  ·cases h1
  ·rename_i h0
   have hf:yH k t d ti a ar ci ks=true:=by simpa using h0
   unfold yH at hf;simp only [Bool.and_eq_true] at hf;have ha:=hf.1.1.1.2;by_cases hk:k=10\/k=11
   ·rcases hk with rfl | rfl
    ·rw [if_neg (by decide),if_neg (by decide),if_neg (by decide),if_neg (by decide),if_pos (.inr rfl)] at h1;unfold QB at h1;split at h1
     ·cases h1
     ·split at h1
      ·cases h1
      ·split at h1
       ·cases h1
       ·split at h1
        ·cases h1
        ·exact tF a (by simpa using h1)
    ·rw [if_neg (by decide),if_neg (by decide),if_neg (by decide),if_neg (by decide),if_neg (by decide),if_pos rfl] at h1;split at h1
     ·cases h1
     ·exact tF a h1
   ·refine Il a ?_;rw [Bool.or_eq_true] at ha;rcases ha with ha | ha
    ·exfalso;simp at ha;omega
    ·exact ha
theorem aj.FI:∀ (l:List aj),aj.Fp l->aj.WK l
 | [],_=>by rw [aj.WK];trivial
 | x::l,h=>by
  rw [aj.Fp] at h;rw [aj.WK];exact ⟨aj.jq6 x h.1,aj.FI l h.2⟩
end
theorem NZ (l:List aj) (h:pO l=0):aj.WK l:=aj.FI l (aj.tC l 0 true 0 h)
theorem ja4{P:Prop}(h:P:=by
 have h5:EE=E0:=by rw [BK.out,if_pos (by simpa using h0)]
 rw [h5];exact bM.nil (by rw [QK.out,h5,if_neg h0]) B1.out):P:=h
theorem NA (l:List aj) (v:jIz) (w:jIq) (hrd:Rd (·<w.heap.size) w (bJ l) [v]) (hsm:aj.aC l) (hsz:aj.aY l<=900000) : Calls prog 10 #[v] w (bM w (lnE l) (lnN l)):=by
 obtain ⟨a,cap,hv,-⟩:=Rd.ay hrd;obtain rfl:v=.slice a l.length cap:=by simpa using hv
 clear hv;have LC:=hid (FJ l a cap w hsm hrd);have O6:=hid hrd;have dw:=hid hsm;have hee:lnE l=if pO l≠0 then pO l else if jH l=true then 5 else 0:=rfl
 have hnn:lnN l=if lnE l=0 then dV l else []:=rfl
 obtain ⟨E0,hE0⟩:∃ E0,E0=pO l:=⟨_,rfl⟩;obtain ⟨EE,vV⟩:∃ EE,EE=lnE l:=⟨_,rfl⟩;obtain ⟨NN,Jw⟩:∃ NN,NN=lnN l:=⟨_,rfl⟩;rw [<- hE0] at LC hee;rw [<- vV] at hee hnn;rw [<- Jw] at hnn;rw [<- vV,<- Jw];have BK:=hid hee;have QK:=hid hnn;have HE0:=hid hE0;clear hrd hsm hee hnn hE0 vV Jw;go_enter func10,ntmps10;go_wp2_with fail
 (with_reducible refine LC.out.mono ?_)
 rintro e w1 ⟨rfl,b1⟩;have B1:=hid b1;have hz1:=b1.size;clear b1 LC;by_cases h0:E0=0
 ·have q1:((E0:Int) != 0)=false:=by rw [h0];rfl
  have NH:Hid (pO l=0):=by show _=_;rw [<- HE0.out,h0]
  have y8:Hid (EE=if jH l=true then 5 else 0):=by show _=_;rw [BK.out,if_neg (by simp [h0])]
  obtain ⟨wL,hwL⟩:∃ wL,wL=w1.alloc (.cells #[.int .i64 1,.int .i64 0,.string ⟨#[]⟩,.string ⟨#[]⟩,.string ⟨#[]⟩,.string ⟨#[]⟩,.string ⟨#[]⟩,.slice none 0 0,.slice none 0 0,.slice a l.length cap,.slice none 0 0] 51):=⟨_,rfl⟩;have bL:jIx w1.heap.size w1 wL:=by rw [hwL];exact (jFj _ _).alloc (jFk _) _
  have rL:Rd (·<wL.heap.size) wL (lu [lnB l]) [.slice (some ⟨w1.heap.size,0,none⟩) 1 1]:=by
   rw [hwL];have h:=aG.one (T:=51) (k:=11) (w:=w1) (d:=(lnB []).d) (r:=[.int .i64 1,.int .i64 0,.string ⟨#[]⟩,.string ⟨#[]⟩,.string ⟨#[]⟩,.string ⟨#[]⟩,.string ⟨#[]⟩,.slice none 0 0,.slice none 0 0,.slice none 0 0,.slice none 0 0]) rfl (ah.dJ 1 0 ⟨#[]⟩ ⟨#[]⟩ ⟨#[]⟩ ⟨#[]⟩ (a:=⟨⟨#[]⟩,[],[]⟩) ⟨⟨Rd.aD _ _ _,Rd.aD _ _ _⟩,Rd.aD _ _ _,Rd.aD _ _ _⟩);have hb:Rd (·<(w1.alloc (.cells #[.int .i64 1,.int .i64 0,.string ⟨#[]⟩,.string ⟨#[]⟩,.string ⟨#[]⟩,.string ⟨#[]⟩,.string ⟨#[]⟩,.slice none 0 0,.slice none 0 0,.slice a l.length cap,.slice none 0 0] 51)).heap.size) (w1.alloc (.cells #[.int .i64 1,.int .i64 0,.string ⟨#[]⟩,.string ⟨#[]⟩,.string ⟨#[]⟩,.string ⟨#[]⟩,.string ⟨#[]⟩,.slice none 0 0,.slice none 0 0,.slice a l.length cap,.slice none 0 0] 51)) (lnB l).d [.int .i64 1,.int .i64 0,.string ⟨#[]⟩,.string ⟨#[]⟩,.string ⟨#[]⟩,.string ⟨#[]⟩,.string ⟨#[]⟩,.slice none 0 0,.slice none 0 0,.slice a l.length cap,.slice none 0 0]:=
    ah.dJ 1 0 ⟨#[]⟩ ⟨#[]⟩ ⟨#[]⟩ ⟨#[]⟩ (a:=⟨⟨#[]⟩,[],[]⟩) ⟨⟨Rd.aD _ _ _,Rd.aD _ _ _⟩,(O6.out.up B1.out).up ((jFj _ _).alloc (jFk _) _),Rd.aD _ _ _⟩
   refine Rd.fM (rows:=[_]) (B:=w1.heap.size) (e:=51) ⟨rfl,.inr ⟨w1.heap.size,1,_,rfl,jFk _,heap_alloc_new w1 _,by simp,by unfold maxLen;simp,rfl,rfl⟩⟩ (aU.one hb) (by simp) (fun g hg=>?_);have e1:w1.heap.size=g:=by simpa [Value.ownBlock] using hg
   rw [jG8];omega
  have IC:=wG [lnB l] (.slice (some ⟨w1.heap.size,0,none⟩) 1 1) wL rL (by rw [ah.uG,ah.uG,lnB,ah.bd,ah.uG];exact ⟨⟨by simp,by simp,aj.kW l dw.out,by omega,trivial⟩,trivial⟩)
   (by rw [ah.aY,ah.aY,lnB,ah.sz,ah.aY];omega) (by rw [IV,aj.fU];omega)
  rw [IV] at IC;have IL:=hid IC;have BL:=hid (q01 B1.out bL);clear IC rL bL h0;go_upto_region 4 with (fail)
  have jB4:=hid hwL;clear hwL;go_wp2_with fail
  rw [<- jB4.out]
  (with_reducible refine IL.out.mono ?_)
  rintro e w2 ⟨v2,bD,rfl,hown2,N7,sS,b2⟩;have xu:Rd (fun _=>True) w2 (bJ (aj.aS l)) [v2]:=Rd.fM (by rw [jG1];exact hown2) N7 sS (fun _ _=>trivial);have UC:=zu (aj.aS l) _ v2 w2 xu;have hue:(aj.aS l).any eB=jH l:=rfl;rw [hue] at UC;have UL:=hid UC;have B2:=hid (q01 BL.out b2);clear hown2 N7 sS b2 xu UC IL hue;go_wp2_with fail
  (with_reducible refine UL.out.mono ?_)
  rintro e w3 ⟨rfl,b3⟩;have B3:=hid (q01 B2.out b3);obtain ⟨u,hu⟩:∃ u,u=jH l:=⟨_,rfl⟩;rw [<- hu] at y8;rw [<- hu];have HU:=hid hu;clear b3 UL hu;cases u with
  | true=>
   have HF:Hid (bM w EE NN (.returned (.tuple #[.slice none 0 0,.int .i64 5])) w3):=by
    have h5:EE=5:=by rw [y8.out];rfl
    rw [h5];exact bM.nil (by rw [QK.out,h5];rfl) B3.out
   go_wp2
   go_ret2
   exact HF.out
  | false=>
   have HC:=hid (uR 900000 l (.slice a l.length cap) w3 hsz (by omega) (O6.out.up B3.out) dw.out (Fu l NH.out HU.out.symm));go_wp2_with fail
   (with_reducible refine HC.out.mono ?_)
   rintro e w4 ⟨bG,v4,rfl,hrow4⟩;have HF:Hid (bM w EE NN (.returned (.tuple #[v4,.int .i64 0])) w4):=by
    have h5:EE=0:=by rw [y8.out];rfl
    have hN:NN=dV l:=by rw [QK.out,h5];rfl
    rw [h5,hN];exact ⟨bG,v4,rfl,hrow4.l7 B3.out.size (q01 B3.out hrow4.aO)⟩
   clear hrow4 HC;go_wp2
   go_ret2
   exact HF.out
 ·have q1:((E0:Int) != 0)=true:=by rw [bne_iff_ne];omega
  have HF:Hid (bM w EE NN (.returned (.tuple #[.slice none 0 0,.int .i64 (E0:Int)])) w1):=by exact ja4
  clear h0;go_wp2
  go_ret2
  exact HF.out
def xK (l:List ah):Nat:=if ah.aT gG 0 0 l≠0 then ah.aT gG 0 0 l else if (ah.aR l).any eB=true then 5 else 0
def O5 (l:List ah):List Nd:=if xK l=0 then fZ l else []
def KY (me:List Pr) (l:List ah) (title lang:ByteArray):Nat:=
 if Cw gG me l≠0 then Cw gG me l else if dG title=false then 17 else if dU lang=false then 6 else if (ah.aR l).any eB=true then 5 else 0
def wE:Nd:=.mk ⟨#[]⟩ ⟨#[]⟩ [] []
def NJ (me:List Pr) (l:List ah) (title lang:ByteArray):Nd:=if KY me l title lang=0 then zO title lang (fZ l) else wE
theorem Vd {me:List Pr} {l:List ah} (h:Cw gG me l=0):ah.aT gG 0 0 l=0:=by
 unfold Cw at h;split at h
 ·cases h
 ·split at h
  ·rename_i h1;exact absurd h h1
  ·exact h
theorem Ak {l:List ah} (h:xK l=0):ah.aT gG 0 0 l=0/\(ah.aR l).any eB=false:=by
 unfold xK at h;split at h
 ·rename_i h1;exact absurd h h1
 ·rename_i h1
  split at h
  ·cases h
  ·rename_i h2
   exact ⟨Classical.not_not.1 h1,by simpa using h2⟩
theorem Ve {me:List Pr} {l:List ah} {title lang:ByteArray} (h:KY me l title lang=0):Cw gG me l=0/\dG title=true/\dU lang=true/\(ah.aR l).any eB=false:=by
 unfold KY at h;split at h
 ·rename_i h1;exact absurd h h1
 ·rename_i h1
  split at h
  ·cases h
  ·rename_i h2
   split at h
   ·cases h
   ·rename_i h3
    split at h
    ·cases h
    ·rename_i h4
     exact ⟨Classical.not_not.1 h1,by simpa using h2,by simpa using h3,by simpa using h4⟩
theorem jp4 {me:List Pr} {l:List ah} {title lang:ByteArray} (h:KY me l title lang=0):xK l=0:=by obtain ⟨h1,-,-,h4⟩:=Ve h;unfold xK;rw [if_neg (by rw [Vd h1];simp),h4];rfl
theorem P5 (s:ByteArray):(((At.err ⟨⟨#[]⟩,[],[⟨⟨#[116,105,116,108,101]⟩,s⟩]⟩:Nat):Int)==0)=dG s:=by
 have h1:dU (⟨#[116,105,116,108,101]⟩:ByteArray)=true:=by decide +kernel
 have h2:vC [] [⟨⟨#[116,105,116,108,101]⟩,s⟩]=if dG s=false then 17 else 0:=by
  rw [vC,h1];have h0:q22 [] (⟨#[116,105,116,108,101]⟩:ByteArray)=false:=rfl;rw [if_neg (by decide),h0];split
  ·rfl
  ·rfl
 cases hs:dG s with
 | true=>
  rw [hs] at h2;have h3:At.err ⟨⟨#[]⟩,[],[⟨⟨#[116,105,116,108,101]⟩,s⟩]⟩=0:=by unfold At.err;rw [h2];rfl
  rw [h3];rfl
 | false=>
  rw [hs] at h2;have h3:At.err ⟨⟨#[]⟩,[],[⟨⟨#[116,105,116,108,101]⟩,s⟩]⟩=17:=by unfold At.err;rw [h2];rfl
  rw [h3];rfl
theorem N8 {l:List ah} (h:xK l=0):ah.qM l:=by obtain ⟨h1,h2⟩:=Ak h;exact ah.pQ gG l 0 0 (by decide) (by decide) h1 (by rw [ah.pU];exact h2)
def Vf:At:=⟨⟨#[]⟩,[],[]⟩
def eTx (t:ByteArray):aj:=.mk 1 t ⟨#[]⟩ ⟨#[]⟩ Vf [] [] []
def N9:aj:=.mk 2 ⟨#[]⟩ ⟨#[]⟩ ⟨#[]⟩ Vf [] [] []
def E9:aj:=.mk 14 ⟨#[97]⟩ ⟨#[]⟩ ⟨#[]⟩ Vf [] [] []
def eL:List aj:=[eTx ⟨#[97]⟩,N9,eTx ⟨#[98]⟩]
def Ih:ah:=.mk 5 0 ⟨#[]⟩ ⟨#[]⟩ ⟨#[]⟩ ⟨#[]⟩ Vf [] []
def ND:ah:=.mk 14 0 ⟨#[120]⟩ ⟨#[]⟩ ⟨#[]⟩ ⟨#[]⟩ Vf [] []
def zK:ah:=.mk 6 0 ⟨#[]⟩ ⟨#[]⟩ ⟨#[]⟩ ⟨#[]⟩ Vf [] [ND]
theorem jzz:lnE eL=0:=by decide +kernel
theorem jA0:lnN eL=[Da ⟨#[97,32,98]⟩]:=by rfl
theorem jA1:xK [Ih]=0:=by decide +kernel
theorem jA2:O5 [Ih]=[aH nHr [] []]:=by rfl
theorem jA3:xK [zK]=0:=by decide +kernel
theorem jA4:O5 [zK]=[aH rC [] [],aH R9 [⟨dD,eU⟩] [aH jW [⟨jX,⟨#[110,111,116,101,45,120]⟩⟩,⟨dD,dR⟩] []]]:=by rfl
theorem jA5:KY [] [] ⟨#[84]⟩ ⟨#[101,110]⟩=0:=by decide +kernel
theorem jA6:NJ [] [] ⟨#[84]⟩ ⟨#[101,110]⟩=aH jdj [⟨eY,⟨#[101,110]⟩⟩] [aH jK [] [aH fI [⟨wu,dL⟩] [],aH Fb [] [Da ⟨#[84]⟩]],aH lQ [] []]:=by rfl
theorem e_r:lnE [E9]=5:=by decide +kernel
open Go.RowKit
def eC (t:ByteArray):List jIz:=[.int .i64 1,.string t,.string ⟨#[]⟩,.string ⟨#[]⟩,.string ⟨#[]⟩,.slice none 0 0,.slice none 0 0,.slice none 0 0,.slice none 0 0,.slice none 0 0]
theorem jox (t:ByteArray) (w:jIq) : Calls prog 11 #[.string t] w fun e w'=>e=.returned (.agg (eC t).toArray)/\jIx w.heap.size w w':=by
 obtain ⟨w0,hw0⟩:∃ w0,w0=w.alloc (.cells #[.int .i64 0,.string ⟨#[]⟩,.string ⟨#[]⟩,.string ⟨#[]⟩,.string ⟨#[]⟩,.slice none 0 0,.slice none 0 0,.slice none 0 0,.slice none 0 0,.slice none 0 0] 47):=⟨_,rfl⟩;have b0:jIx w.heap.size w w0:=by rw [hw0];exact (jFj _ _).alloc (jFk _) _
 have P0:PB w.heap.size [.int .i64 0,.string ⟨#[]⟩,.string ⟨#[]⟩,.string ⟨#[]⟩,.string ⟨#[]⟩,.slice none 0 0,.slice none 0 0,.slice none 0 0,.slice none 0 0,.slice none 0 0] w0:=by rw [hw0];exact heap_alloc_new w _
 have r0:=P0.cell 0 _ rfl;have r1:=P0.cell 1 _ rfl;have r2:=P0.cell 2 _ rfl;have r3:=P0.cell 3 _ rfl;have r4:=P0.cell 4 _ rfl;have r5:=P0.cell 5 _ rfl;have r6:=P0.cell 6 _ rfl;have r7:=P0.cell 7 _ rfl;have r8:=P0.cell 8 _ rfl;have r9:=P0.cell 9 _ rfl;have g0:=P0.free 0;have g1:=P0.free 1;have g2:=P0.free 2;have g3:=P0.free 3;have g4:=P0.free 4;have g5:=P0.free 5;have g6:=P0.free 6;have g7:=P0.free 7;have g8:=P0.free 8;have g9:=P0.free 9;have FB:=hid (fun u0 u1 u2 u3 u4 u5 u6 u7 u8 u9=>(((((((((b0.setCell (p:=⟨w.heap.size,0,none⟩) (jFk _) u0).setCell (p:=⟨w.heap.size,1,none⟩) (jFk _) u1).setCell (p:=⟨w.heap.size,2,none⟩) (jFk _) u2).setCell (p:=⟨w.heap.size,3,none⟩) (jFk _) u3).setCell (p:=⟨w.heap.size,4,none⟩) (jFk _) u4).setCell (p:=⟨w.heap.size,5,none⟩) (jFk _) u5).setCell (p:=⟨w.heap.size,6,none⟩) (jFk _) u6).setCell (p:=⟨w.heap.size,7,none⟩) (jFk _) u7).setCell (p:=⟨w.heap.size,8,none⟩) (jFk _) u8).setCell (p:=⟨w.heap.size,9,none⟩) (jFk _) u9);clear P0 b0;go_enter func11,ntmps11;go_upto_region 1 with (fail)
 rw [<- hw0];clear hw0;go_wp2;exact bodyPost_ret (v:=.agg (eC t).toArray) (by simp [eC,results,results11,go_sem,r0,r1,r2,r3,r4,r5,r6,r7,r8,r9]) rfl ⟨rfl,FB.out _ _ _ _ _ _ _ _ _ _⟩
theorem Rd.TU {ok:Nat->Prop} {w:jIq} {k:Nat} {l:List D} {rows:List (List jIz)} {b cap:Nat} (hl:l.length<=cap) (hm:cap<=maxLen) (h:aU ok w l rows) (hk:∀ r∈rows,r.length=k) (hok:ok b) (hb:b<w.heap.size) (hc:∀ j u,rows.flatten[j]?=some u->w.cell? ⟨b,j,none⟩=some u):Rd ok w (.sl k l) [.slice (some ⟨b,0,none⟩) l.length cap]:=by exact jfq
theorem FM (ok:Nat->Prop) (w:jIq):AtR ok w Vf (.slice none 0 0) (.slice none 0 0):=⟨Rd.aD _ _ _,Rd.aD _ _ _⟩
theorem TV (ok:Nat->Prop) (w:jIq) (t:ByteArray):Rd ok w (eTx t).d (eC t):=aj.dJ 1 t ⟨#[]⟩ ⟨#[]⟩ ⟨FM _ _,Rd.aD _ _ _,Rd.aD _ _ _,Rd.aD _ _ _⟩
theorem Yi (ok:Nat->Prop) (w:jIq):Rd ok w N9.d [.int .i64 2,.string ⟨#[]⟩,.string ⟨#[]⟩,.string ⟨#[]⟩,.string ⟨#[]⟩,.slice none 0 0,.slice none 0 0,.slice none 0 0,.slice none 0 0,.slice none 0 0]:=aj.dJ 2 ⟨#[]⟩ ⟨#[]⟩ ⟨#[]⟩ ⟨FM _ _,Rd.aD _ _ _,Rd.aD _ _ _,Rd.aD _ _ _⟩
theorem jp2 (ok:Nat->Prop) (w:jIq):Rd ok w E9.d [.int .i64 14,.string ⟨#[97]⟩,.string ⟨#[]⟩,.string ⟨#[]⟩,.string ⟨#[]⟩,.slice none 0 0,.slice none 0 0,.slice none 0 0,.slice none 0 0,.slice none 0 0]:=aj.dJ 14 ⟨#[97]⟩ ⟨#[]⟩ ⟨#[]⟩ ⟨FM _ _,Rd.aD _ _ _,Rd.aD _ _ _,Rd.aD _ _ _⟩
theorem pW:Vf.short:=⟨by decide,by decide,by decide,fun _ h=>(by cases h),fun _ h=>(by cases h)⟩
theorem Ea (t:ByteArray) (h:t.size<=300):(eTx t).small:=by unfold eTx aj.small aj.aC;exact ⟨h,by decide,by decide,pW,by decide,by decide,fun _ h=>(by cases h),fun _ h=>(by cases h),trivial⟩
theorem jfx{P:Prop}(h:P:=by
 exact ⟨by decide,by decide,by decide,pW,by decide,by decide,fun _ h=>(by cases h),fun _ h=>(by cases h),trivial⟩):P:=h
theorem IW:N9.small:=by unfold N9 aj.small aj.aC;exact jfx
theorem Lx:E9.small:=by unfold E9 aj.small aj.aC;exact jfx
theorem TW:aj.aC eL:=by unfold eL aj.aC aj.aC aj.aC aj.aC;exact ⟨Ea _ (by decide),IW,Ea _ (by decide),trivial⟩
theorem TY:aj.aC [E9]:=by unfold aj.aC aj.aC;exact ⟨Lx,trivial⟩
theorem wo:ah.aC [Ih]:=by
 have h1:=pW;have h3:aj.aY []<=120:=by decide +kernel
 have h4:(⟨#[]⟩:ByteArray).size<=300:=by decide
 simp [Ih,ah.aC,ah.small,h1,h3,h4,aj.aC]
theorem tu:ah.aC [zK]:=by
 have h1:=pW;have h3:aj.aY []<=120:=by decide +kernel
 have h4:(⟨#[]⟩:ByteArray).size<=300:=by decide
 have h5:(⟨#[120]⟩:ByteArray).size<=300:=by decide
 simp [zK,ND,ah.aC,ah.small,h1,h3,h4,h5,aj.aC]
def eBC (k:Int) (i:ByteArray) (vk:jIz):List jIz:=[.int .i64 k,.int .i64 0,.string i,.string ⟨#[]⟩,.string ⟨#[]⟩,.string ⟨#[]⟩,.string ⟨#[]⟩,.slice none 0 0,.slice none 0 0,.slice none 0 0,vk]
theorem jq7 {ok:Nat->Prop} {w:jIq} (k:Int) (i:ByteArray) (ks:List ah) (vk:jIz) (h:Rd ok w (lu ks) [vk]):Rd ok w (ah.mk k 0 i ⟨#[]⟩ ⟨#[]⟩ ⟨#[]⟩ Vf [] ks).d (eBC k i vk):=ah.dJ k 0 i ⟨#[]⟩ ⟨#[]⟩ ⟨#[]⟩ ⟨FM _ _,Rd.aD _ _ _,h⟩
theorem KV (k:Int) (i:ByteArray) (ks:List ah) (vk:jIz) (w:jIq) (h:Rd (·<w.heap.size) w (lu ks) [vk]) : Rd (·<(w.alloc (.cells (eBC k i vk).toArray 51)).heap.size) (w.alloc (.cells (eBC k i vk).toArray 51)) (lu [.mk k 0 i ⟨#[]⟩ ⟨#[]⟩ ⟨#[]⟩ Vf [] ks]) [.slice (some ⟨w.heap.size,0,none⟩) 1 1]:=by have hb:jIx w.heap.size w (w.alloc (.cells (eBC k i vk).toArray 51)):=(jFj _ _).alloc (jFk _) _;have kk:CB 51 w.heap.size (eBC k i vk) (w.alloc (.cells (eBC k i vk).toArray 51)):=CB.new _ _ w;exact Rd.TU (l:=[ah.mk k 0 i ⟨#[]⟩ ⟨#[]⟩ ⟨#[]⟩ Vf [] ks].map ah.d) (rows:=[eBC k i vk]) (by simp) (by unfold maxLen;decide) (aU.one (jq7 k i ks vk (h.up hb))) (by simp [eBC]) kk.lt kk.lt (fun j u hu=>kk.cell j u (by simpa using hu))
mutual
theorem ah.YT (cl:ByteArray->Bool):∀ (b:ah) (par:Int) (dp:Nat),b.err cl par dp=0->b.bJ.any eB=false->∀ x∈b.each,(∃ d',ah.aT cl x.kOf d' x.kids=0)/\(ah.dQ x.kids).any eB=false/\ah.aY x.kids<=b.sz
 | .mk k lv i t d ti a li ks,par,dp,h,hu,x,hx=>by
  obtain ⟨h2,hbf,h3⟩:=gy cl h;rw [ah.bJ,List.any_append,Bool.or_eq_false_iff] at hu;rw [ah.each] at hx;rw [ah.sz];rcases List.mem_cons.1 hx with rfl | hx
  ·exact ⟨⟨dp+1,h3⟩,hu.2,by show ah.aY ks<=_;omega⟩
  ·obtain ⟨g1,g2,g3⟩:=ah.Al cl ks k (dp+1) h3 hu.2 x hx;exact ⟨g1,g2,by omega⟩
theorem ah.Al (cl:ByteArray->Bool):∀ (l:List ah) (par:Int) (dp:Nat),ah.aT cl par dp l=0->(ah.dQ l).any eB=false->∀ x∈ah.aV l,(∃ d',ah.aT cl x.kOf d' x.kids=0)/\(ah.dQ x.kids).any eB=false/\ah.aY x.kids<=ah.aY l
 | [],_,_,_,_,x,hx=>by rw [ah.aV] at hx;cases hx
 | y::l,par,dp,h,hu,x,hx=>by
  rw [ah.aT] at h;rw [ah.dQ,List.any_append,Bool.or_eq_false_iff] at hu;rw [ah.aV] at hx;rw [ah.aY];by_cases h1:y.err cl par dp≠0
  ·rw [if_pos h1] at h;exact absurd h h1
  ·rw [if_neg h1] at h;rcases List.mem_append.1 hx with hx | hx
   ·obtain ⟨g1,g2,g3⟩:=ah.YT cl y par dp (Classical.not_not.1 h1) hu.1 x hx;exact ⟨g1,g2,by omega⟩
   ·obtain ⟨g1,g2,g3⟩:=ah.Al cl l par dp h hu.2 x hx;exact ⟨g1,g2,by omega⟩
end
theorem jfz{P Q:Prop}(q:Q)(h:Nonempty Q->P:=by
 intro qQ;obtain ⟨⟨d',g1⟩,g2,g3⟩:=ah.Al gG l 0 0 h1 (by rw [ah.pU];exact h2) x hx;rw [hk] at g1;have g4:=(jJ (ah.iU l hsm x hx)).1;have g5:=ah.pQ gG x.kids 14 d' (by decide) (by decide) g1 g2;revert d' g1 g2 g3 g4 g5;exact qQ.elim fun x=>x):P:=h ⟨q⟩
theorem Vg (l:List ah) (h:xK l=0) (hsm:ah.aC l) (hz:ah.aY l<=900000):ah.lK l/\∀ x∈ah.aV l,x.kOf=14->ah.lK x.kids/\ah.aY x.kids<=900000:=by obtain ⟨h1,h2⟩:=Ak h;have h3:=N8 h;refine ⟨ah.sW gG l 0 0 h1 h3 hsm hz,fun x hx hk=>?_⟩;refine jfz ?_;intro d' g1 g2 g3 g4 g5;exact ⟨ah.sW gG _ 14 d' g1 g5 g4 (by omega),by omega⟩
mutual
theorem Vh:∀ (b:ah),b.each.length=b.sz
 | .mk k lv i t d ti a li ks=>by rw [ah.each,ah.sz,List.length_cons,pE ks];omega
theorem pE:∀ (l:List ah),(ah.aV l).length=ah.aY l
 | []=>by rw [ah.aV,ah.aY];rfl
 | x::l=>by rw [ah.aV,ah.aY,List.length_append,Vh x,pE l]
end
theorem za {x:ah} (h:x.small):x.iOf.size<=300:=by obtain ⟨k,lv,i,t,d,ti,a,li,ks⟩:=x;rw [ah.small] at h;exact h.1
theorem GX (l:List ah) (k:Nat) (x:ah) (h:l[k]?=some x):(l.take (k+1)).flatMap qH=(l.take k).flatMap qH++qH x:=by rw [List.take_add_one,h,List.flatMap_append];simp
theorem l6:∀ (l:List ah),(l.flatMap qH).length<=l.length
 | []=>by simp
 | x::l=>by
  have h:=l6 l;rw [List.flatMap_cons,List.length_append,List.length_cons];have h2:(qH x).length<=1:=by obtain ⟨k,lv,i,t,d,ti,a,li,ks⟩:=x;unfold qH;dsimp only;split<;>simp
  omega
open Go.RowKit Go.Shelf
attribute [local go_sem] Oper.semAt_some
theorem xB.ok {S Bb N0:Nat} (h1:S<=Bb) (h2:Bb<N0):Ur S (xB Bb N0) where
 below h:=h.below h1 h2
 yld h hb:=(h.cel _ _ _ _ hb (by decide) (by decide)).trans hb
 wlk h hb:=(h.cel _ _ _ _ hb (by decide) (by decide)).trans hb
theorem BuI.Eb {Bb N0:Nat} {L:List Nd} {W W':World} {row:Option Nat} (h:BuI Bb N0 L W) (hB:Bb<N0) (hg:W.grownBy W' row) (hr:∀ r,row=some r->N0<=r/\∃ o:Obj,W.heap[r]?=some o/\o.isCells=false):BuI Bb N0 L W':=by obtain ⟨wB,rows,v,h1,h2,h3⟩:=h;refine ⟨wB,rows,v,h1,(h2.Eb hg (fun r e=>⟨by have:=(hr r e).1;omega,(hr r e).2⟩)).up hg.size (Nat.le_refl _),?_⟩;exact (hg.block Bb h3.lt (fun e=>by have:=(hr Bb e.symm).1;omega)).trans h3
theorem LD {c:Code} {Q:Exit->Act->World->Prop} {a:Act} {w:World} (h:c.wp prog (fun e a w=>(∀ x,e≠Exit.panic x)/\Q e a w) a w):c.wp prog Q a w:=Code.wp_mono (fun _ _ _ h=>h.2) h
def YU (b:ah):Prop:=b.iOf.size<=300/\(b.kOf=14->ah.lK b.kids/\ah.aY b.kids<=900000)
def BV.cs (x:BV):List Value:=[.int .i64 x.kd,.int .i64 x.lv,.string x.i,.string x.t,.string x.d,.string x.ti,.string x.at_.id,x.vc,x.vp,x.vl,x.vk]
def clF (Bb:Nat):Value:=.func (.func 31) #[] #[.pointer (some ⟨Bb,0,none⟩)]
def jg0 (Bb Bf Bl:Nat) (s o v2:Value) (E:Int) (x:BV) (Bx:Nat):Act:={ tmps:=#[s,undef,.slice none 0 0,.int .i64 0,.int .i64 E,.pointer (some ⟨Bb,0,none⟩),o,.pointer (some ⟨Bf,0,none⟩),.pointer (some ⟨Bx,0,none⟩),s,.int .i64 E,.int .i64 E,.bool false,undef,s,v2,.bool false,s,o,clF Bb,s,.func (.func 64) #[] #[.pointer (some ⟨Bl,0,none⟩)],x.enc,undef,undef,undef,undef,undef,undef,undef,undef,undef,undef,undef,undef,undef,undef,undef,undef,undef,undef,undef,undef,undef],defers:=[] }
def BtX (N0 Bb Bf Bl:Nat) (s o v2:Value) (E:Int) (x:BV) (a':Act) (W:World):Prop:=∃ Bx,N0<=Bx/\CB 51 Bx x.cs W/\a'=jg0 Bb Bf Bl s o v2 E x Bx
theorem BtX.own {N0 Bb Bf Bl B:Nat} {s o v2:Value} {E:Int} {x:BV} {a':Act}:OwnFrom B (fun (_:Unit) W=>BtX N0 Bb Bf Bl s o v2 E x a' W):=fun _ W W' row ⟨Bx,h1,h2,h3⟩ hg hr=>
 ⟨Bx,h1,(hg.block Bx h2.lt (fun e=>by
  obtain ⟨_,o,k1,k2⟩:=hr Bx e.symm;unfold CB at h2;rw [h2] at k1;cases k1;cases k2)).trans h2,h3⟩
def BtI (Bb N0 S:Nat) (w W0:World) (pre:List (BW S w YU)) (W:World):Prop:=BuI Bb N0 ((xR pre).flatMap qH) W/\xB Bb N0 W0 W
theorem BtI.own {Bb N0 S:Nat} {w W0:World} (hB:Bb<N0) (hz:N0=W0.heap.size):OwnFrom N0 (BtI Bb N0 S w W0):=fun s W W' row h hg hr=>
 ⟨h.1.Eb hB hg hr,h.2.trans (xB.grown hg (by have:=h.2.size;omega) hr)⟩
theorem Vi {fn:Func} {R:Ending->World->Prop} {a:Act} {w:World} {v:Value} (hd:a.defers=[]) (hr:(results fn a.tmps).run prog w=.ok v w) (h:R (.returned v) w):bodyPostM Fence.wide 3 prog fn R .ret a w:=by show LeavesInM _ _ _ _ _ _ a.defers _ _;rw [hd];unfold LeavesInM LeavesIn;exact ⟨v,hr,h⟩
theorem Vj {n:Nat} {fn:Func} {R:Ending->World->Prop} {a:Act} {w:World} {v:Value} {D:Nat} (hd:a.defers=[{ target:=.collected D,args:=#[] }]) (hf:w.heap[D]?=some (.deferred (some []))) (hr:∀ w',(results fn a.tmps).run prog w'=.ok v w') (h:R (.returned v) (w.putObj D (.deferred none))):bodyPostM Fence.wide n prog fn R .ret a w:=by show LeavesInM _ _ _ _ _ _ a.defers _ _;rw [hd];refine ⟨by simp,.inl ⟨D,_,rfl,run_takeDeferred hf,?_⟩⟩;exact ⟨v,hr _,h⟩
theorem bM.jw1 {w W:World} {E:Nat} {L:List Nd} {v:Value} {D:Nat} (h:bM w E L (.returned v) W) (hD:w.heap.size<=D) (hf:W.heap[D]?=some (.deferred (some []))):bM w E L (.returned v) (W.putObj D (.deferred none)):=by obtain ⟨rows,v',he,hr⟩:=h;have hg:=grownBy_putObj' W D (.deferred none);exact ⟨rows,v',he,(hr.Eb hg (fun r e=>by cases e;exact ⟨hD,_,hf,rfl⟩)).up hg.size (Nat.le_refl _)⟩
theorem Oa{P:Prop}(h:P:=by
 (intro wv hSw;(try dsimp only at hSw);go_simp;try with_reducible rfl)):P:=h
theorem ja0{P Q:Prop}(q:Q)(h:Nonempty Q->P:=by
 intro qQ;have hee:xK l=if ah.aT gG 0 0 l≠0 then ah.aT gG 0 0 l else if (ah.aR l).any eB=true then 5 else 0:=rfl
 have hnn:O5 l=if xK l=0 then fZ l else []:=rfl
 revert hee hnn;exact qQ.elim fun x=>x):P:=h ⟨q⟩
theorem Fa (l:List ah) (v:jIz) (w:jIq) (hrd:Rd (·<w.heap.size) w (lu l) [v]) (hsm:ah.aC l) (hsz:ah.aY l<=900000) (hil:(ah.aR l).length<=1000) (hbd:ah.uG l) (ht:PT w) : Calls prog 12 #[v] w (bM w (xK l) (O5 l)):=by
 obtain ⟨iN,qG,fF,fG,fH⟩:=info_parts iE;obtain ⟨a,cap,hv,-⟩:=Rd.ay hrd;obtain ⟨nl,hnl⟩:∃ nl,nl=l.length:=⟨_,rfl⟩;obtain rfl:v=.slice a nl cap:=by rw [hnl];simpa using hv
 have LC:=vS gG l a cap w hsm (fun _=>IQ) (by rw [<- hnl];exact hrd);rw [<- hnl] at LC;have dW:=hid LC;clear hv LC hnl;obtain ⟨S,hS⟩:∃ S,S=w.heap.size:=⟨_,rfl⟩;have O6:=hid hrd;have dw:=hid hsm;have pJ:Hid (∀ W:jIq,jIx S w W->PT W):=fun W hW=>ht.below (by rw [<- hS];exact hW)
 refine ja0 ?_;intro hee hnn;have HW:=hid (fun h:xK l=0=>Vg l h hsm hsz);have IC:Hid (∀ W:jIq,jIx S w W->Calls prog 27 #[.slice a nl cap] W (fun e w'=>∃ v',e=.returned v'/\Rd (fun _=>True) w' (bJ (ah.aR l)) [v']/\jIx W.heap.size W w')):=fun W hW=>by
  refine (wG l (.slice a nl cap) W (hrd.up (by rw [<- hS];exact hW)) hbd (by omega) (by omega)).mono ?_;rintro e w2 ⟨v2,bD,rfl,hown2,N7,sS,b2⟩;exact ⟨v2,rfl,Rd.fM (by rw [jG1];exact hown2) N7 sS (fun _ _=>trivial),b2⟩
 obtain ⟨E0,hE0⟩:∃ E0,E0=ah.aT gG 0 0 l:=⟨_,rfl⟩;obtain ⟨EE,vV⟩:∃ EE,EE=xK l:=⟨_,rfl⟩;obtain ⟨NN,Jw⟩:∃ NN,NN=O5 l:=⟨_,rfl⟩;rw [<- hE0] at dW hee;rw [<- vV] at hee hnn HW;rw [<- Jw] at hnn;rw [<- vV,<- Jw];have BK:=hid hee;have QK:=hid hnn;have HS:=hid hS;clear hrd hee hnn hE0 vV Jw ht hS;refine (callsIn_wide (n:=3)).1 ?_;refine callsIn_of_wp_marks func12 rfl trivial ?_ rfl;simp only [ntmps12,List.size_toArray,List.length_cons,List.length_nil,Nat.reduceAdd,Nat.reduceSub,Array.replicate_succ,Array.replicate_zero,List.push_toArray,List.append_toArray,List.nil_append,List.cons_append];refine wpIn_wide.2 ?_;go_wp2_with fail
 (with_reducible refine dW.out.mono ?_)
 rintro e w1 ⟨rfl,b1⟩;have B1:Hid (jIx S w w1):=by rw [HS.out];exact b1
 clear b1 dW;by_cases h0:E0=0
 ·have q1:((E0:Int) != 0)=false:=by rw [h0];rfl
  have y8:Hid (EE=if (ah.aR l).any eB=true then 5 else 0):=by show _=_;rw [BK.out,if_neg (by simp [h0])]
  have IL:=hid (IC.out w1 B1.out);clear h0;go_wp2_with fail
  (with_reducible refine IL.out.mono ?_)
  rintro e w2 ⟨v2,rfl,xu,b2⟩;have UL:=hid (zu (ah.aR l) _ v2 w2 xu);obtain ⟨a2,n2,c2,rfl⟩:=Rd.au xu;have B2:=hid (B1.out.trans (b2.mono (by have:=B1.out.size;have:=HS.out;omega)));clear xu b2 IL;go_wp2_with fail
  (with_reducible refine UL.out.mono ?_)
  rintro e w3 ⟨rfl,b3⟩;have B3:=hid (B2.out.trans (b3.mono (by have:=B2.out.size;have:=HS.out;omega)));obtain ⟨u,hu⟩:∃ u,u=(ah.aR l).any eB:=⟨_,rfl⟩;rw [<- hu] at y8;rw [<- hu];clear b3 UL hu;cases u with
  | true=>
   have HF:Hid (bM w EE NN (.returned (.tuple #[.slice none 0 0,.int .i64 5])) w3):=by
    have h5:EE=5:=by rw [y8.out];rfl
    rw [h5];exact bM.nil (by rw [QK.out,h5];rfl) (by rw [<- HS.out];exact B3.out)
   go_wp2;exact Vi rfl (by simp [results,results12,go_sem]) HF.out
  | false=>
   have hE:EE=0:=by rw [y8.out];rfl
   obtain ⟨hw1,hw3⟩:=HW.out hE;have R8:=hid (show NN=fZ l by rw [QK.out,hE];rfl);have HE:=hid hE;have HWN:=hid (show ∀ b∈ah.aV l,YU b from fun b hb=>⟨za (ah.iU l dw.out b hb),fun hk=>hw3 b hb hk⟩);have HEL:=hid (show (ah.aV l).length<=900000 by rw [pE];exact hsz);have G7:=hid (show (ah.aZ l).length<=900000 from jFq (nY l) (jFq (ah.fK l) hsz));obtain ⟨Bb,hBb⟩:∃ Bb,Bb=w3.heap.size:=⟨_,rfl⟩;obtain ⟨w4,hw4⟩:∃ w4,w4=w3.alloc (.cells #[.slice none 0 0] 70):=⟨_,rfl⟩;have k4:aJ Bb (.slice none 0 0) 70 w4:=by rw [hw4,hBb];exact aJ.new _ _ _
   have b4:jIx S w w4:=by rw [hw4];exact B3.out.alloc (by have:=B3.out.size;have:=HS.out;omega) _
   have hSB:S<=Bb:=by have:=B3.out.size;have:=HS.out;omega
   have z4:w4.heap.size=Bb+1:=by rw [hw4,jG8,hBb]
   have HC:=hid (vZ (.pointer (some ⟨Bb,0,none⟩)) 900000 l (.slice a nl cap) w4 hsz (by omega) (O6.out.up (by rw [<- HS.out];exact b4)) hw1 (pJ.out w4 b4));have K4:=hid k4;have B4:=hid b4;have Z4:=hid z4;clear hE hw1 hw3 k4 b4 z4;go_upto_region 7 with (fail)
   rw [<- hw4,<- hBb];clear hw4 hBb;go_wp2_with fail
   (with_reducible refine HC.out.mono ?_)
   rintro e w5 ⟨nZ,v5,rfl,bC⟩;obtain ⟨n5,hn5⟩:∃ n5,n5=((ah.aZ l).map Nd.d).length:=⟨_,rfl⟩;have jEk:n5<=900000:=by rw [hn5,jG1];exact G7.out
   obtain ⟨a5,c5,rfl,-,-⟩:=bC.cap hn5.symm;have HN5:=hid hn5.symm;have jg1:=hid bC;have B45:=hid bC.aO;clear bC hn5 HC;obtain ⟨Bf,hBf⟩:∃ Bf,Bf=w5.heap.size:=⟨_,rfl⟩;obtain ⟨w6,pG⟩:∃ w6,w6=w5.alloc (.cells #[clF Bb] 72):=⟨_,rfl⟩;obtain ⟨W0,hW0⟩:∃ W0,W0=w6.alloc (.cells #[.slice a nl cap] 23):=⟨_,rfl⟩;have z6:w6.heap.size=Bf+1:=by rw [pG,jG8,hBf]
   have zz:W0.heap.size=Bf+2:=by rw [hW0,jG8,z6]
   have jB5:=B45.out.size;have jEq:Bb<Bf:=by have:=Z4.out;omega
   have g5:jIx w5.heap.size w5 W0:=by rw [hW0,pG];exact ((jFj _ _).alloc (jFk _) _).alloc (by rw [jG8];omega) _
   have bF:aJ Bf (clF Bb) 72 W0:=by rw [hW0,pG,hBf];exact (aJ.new _ _ _).alloc _
   have bL:aJ (Bf+1) (.slice a nl cap) 23 W0:=by rw [hW0,<- z6];exact aJ.new _ _ _
   have bB:aJ Bb (.slice none 0 0) 70 W0:=(K4.out.below (B:=w4.heap.size) (by have:=Z4.out;omega) B45.out).below (B:=w5.heap.size) (by omega) g5;have bl0:jIx S w W0:=(B4.out.trans (B45.out.mono (by have:=Z4.out;omega))).trans (g5.mono (by have:=Z4.out;omega));have HR5:=hid (jg1.out.below g5);have hU5:w5.heap.size=Bf:=hBf.symm;have N0:BtI Bb W0.heap.size S w W0 [] W0:=⟨⟨W0,[],.slice none 0 0,rfl,aG.nil _ _ _ _,bB⟩,xB.refl _ _ _⟩;have HFB:=hid (show aJ Bf (clF Bb) 72 W0 from bF);have hnf:∀ (x:Nat) (wx:jIq),Sem.run prog (binOp BinOp.eql 74 (Value.func (Fn.func 64) #[] #[Value.pointer (some ⟨x,0,none⟩)]) Value.nilFunc) wx=.ok (.bool false) wx:=fun x wx=>by rfl
   have Ub:=hid (show Rd (·<S) w (lu l) [.slice a nl cap] by rw [HS.out];exact O6.out);have EC:=hid (Ut a nl cap w6);rw [<- hW0,z6] at EC;have HU5:=hid hU5;have HZZ:=hid zz;clear bF bB g5 z6 jB5 jg1 hU5 hW0;have jw2:clF Bb=.func (.func 31) #[] #[.pointer (some ⟨Bb,0,none⟩)]:=rfl;rw [jw2] at pG;go_upto_region 9 with (fail)
   rw [<- pG,<- hBf];clear pG hBf jw2;go_wp2_with fail
   (with_reducible refine EC.out.mono ?_)
   rintro e w7 ⟨rfl,hw7⟩;rw [hw7];clear EC hw7 w7;go_wp2_with fail
   obtain ⟨s0,hs0⟩:∃ s0,s0=Value.slice a nl cap:=⟨_,rfl⟩;have hN0:W0.heap.size=Bf+2:=HZZ.out;have hBN:Bb<W0.heap.size:=by omega
   refine wpIn_wide (n:=3) |>.1 ?_
   refine wpIn_rangeFunc_ownH (α:=BW S w YU) rfl (by decide) (gf:=64) (lb:=#[.pointer (some ⟨Bf+1,0,none⟩)]) rfl trivial (enters_of func64 (by kernel_rfl) rfl)
    (Lc 2 (Bf+1) S YU l (.slice a nl cap) w W0 (xB Bb W0.heap.size) (xB.ok hSB hBN) HWN.out Ub.out bl0 (by omega) bL) (fun h k=>h.trans k) (fun W l o o' h1 h2 h3 _=>xB.obj Bb W0.heap.size W l o o' h1 h2 h3) (jFj _ _) (fun _=>rfl)
    (BtI Bb W0.heap.size S w W0) (fun _ _ _=>False) (BtI.own hBN rfl) (fun c s A B row h _ _=>h) N0
    (fun x a' W=>BtX W0.heap.size Bb Bf (Bf+1) (.slice a nl cap) (.slice a5 n5 c5) (.slice a2 n2 c2) (E0:Int) x.1 a' W) (fun x a'=>BtX.own) ?assign ?body ?done ?stop
   case stop=>rintro D c pre W _ _ h _;exact h.elim
   case assign=>
    rintro l0 pre ⟨⟨kd,lv,i,t,d,ti,at_,li,ks,vc,vp,vl,vk⟩,hR,jEx⟩ W K hi hK;dsimp only at hR hK;obtain ⟨ac,nc,cc,rfl⟩:=Rd.au hR.at_.cls
    obtain ⟨ap,np,cp,rfl⟩:=Rd.au hR.at_.aF
    obtain ⟨al,nl2,cl,rfl⟩:=Rd.au hR.line;obtain ⟨ak,nk,ck,rfl⟩:=Rd.au hR.kids;have HI:=hid hi;have HK:=hid hK;clear hi hK;dsimp only [BV.enc]
    gi_wp2
    have hsz:=HI.out.2.size;exact HK.out _ _ ((KeepsOthers.alloc _ _).from _) (xB.grown (World.grownBy_alloc _ _ none) hsz (fun r e=>by cases e)) ⟨HI.out.1.Eb hBN (World.grownBy_alloc _ _ none) (fun r e=>by cases e),HI.out.2.trans (xB.grown (World.grownBy_alloc _ _ none) hsz (fun r e=>by cases e))⟩ ⟨W.heap.size,hsz,heap_alloc_new W _,rfl⟩
   case body=>
    rintro l0 pre x a' W hl0 _ hN ⟨Bx,hBx,Ob,rfl⟩ hlen;have hR:=x.2.1;have hNK:=x.2.2;obtain ⟨y,hy⟩:∃ y,y=x.1:=⟨_,rfl⟩;rw [<- hy] at hR Ob hNK ⊢;have HEQ:Hid ((xR (pre++[x])).flatMap qH=(xR pre).flatMap qH++qH y.blk):=by show _=_;rw [jO,List.flatMap_append,hy];show _++List.flatMap qH [x.1.blk]=_;rw [List.flatMap_cons,List.flatMap_nil,jI9]
    have jw3:((xR pre).flatMap qH).length<=1000000:=by have h1:=l6 (xR pre);rw [Am] at h1;have:=HEL.out;omega
    obtain ⟨kd,lv,i,t,d,ti,at_,li,ks,vc,vp,vl,vk⟩:=y;dsimp only at hR;have hNK:i.size<=300/\(kd=14->ah.lK ks/\ah.aY ks<=900000):=hNK;obtain ⟨ac,nc,cc,rfl⟩:=Rd.au hR.at_.cls
    obtain ⟨ap,np,cp,rfl⟩:=Rd.au hR.at_.aF
    obtain ⟨al,nl2,cl,rfl⟩:=Rd.au hR.line;obtain ⟨ak,nk,ck,rfl⟩:=Rd.au hR.kids;have c0:=Ob.cell 0 _ rfl;have hSW:=hN.2.size;have hbW:jIx S w W:=bl0.trans (hN.2.below (S:=S) hSB hBN);have HN:=hid hN;dsimp only at c0;clear hlen hy hN;unfold jg0;dsimp only [BV.enc];by_cases hk:kd=14
    ·subst hk;have q1:((14:Int)==14)=true:=rfl;have c1:=Ob.cell 1 _ rfl;have c2:=Ob.cell 2 _ rfl;have c3:=Ob.cell 3 _ rfl;have c4:=Ob.cell 4 _ rfl;have c5:=Ob.cell 5 _ rfl;have c6:=Ob.cell 6 _ rfl;have c7:=Ob.cell 7 _ rfl;have c8:=Ob.cell 8 _ rfl;have c9:=Ob.cell 9 _ rfl;have c10:=Ob.cell 10 _ rfl;dsimp only at c1 c2 c3 c4 c5 c6 c7 c8 c9 c10;have bxF:W.cell? ⟨Bf,0,none⟩=some (.func (.func 31) #[] #[.pointer (some ⟨Bb,0,none⟩)]):=aJ.cell (t:=72) ((HN.out.2.blk Bf (by omega) (by omega)).trans HFB.out);have hCA:=Ig Bb W0.heap.size ((xR pre).flatMap qH) 14 lv i t d ti at_ li ks (.slice ac nc cc) (.slice ap np cp) (.slice al nl2 cl) (.slice ak nk ck) W hBN (hR.sK (fun b (hb:b<S) hlt=>⟨by omega,hbW.block b hb⟩)) (hNK.2 rfl).1 (hNK.2 rfl).2 hNK.1 (pJ.out W hbW) jw3 HN.out.1
     have HCA:=hid hCA;have hno:qH (BV.blk ⟨14,lv,i,t,d,ti,at_,li,ks,.slice ac nc cc,.slice ap np cp,.slice al nl2 cl,.slice ak nk ck⟩)=[aH jW [⟨jX,BM++i⟩,⟨dD,dR⟩] (ah.aZ ks)]:=rfl;have FZ:=hid hno;clear hno hCA Ob hR hNK
     gi_wp2_with fail
     refine ⟨trivial,?_⟩;refine (CallsIn.inRound l0 (callsIn_wide.2 HCA.out)).mono ?_;rintro e W2 ⟨rfl,hBu,hKp,hSt⟩;have HP:Hid (BtI Bb W0.heap.size S w W0 (pre++[x]) W2):=by refine ⟨?_,HN.out.2.trans hKp⟩;rw [HEQ.out,FZ.out];exact hBu
     have HKF:Hid (KeepsFrom W0.heap.size W W2):=⟨hKp.size,fun k o hk' ho hc=>hSt k o ho hc⟩;have YV:=hid hKp;clear hBu hKp hSt c0 c1 c2 c3 c4 c5 c6 c7 c8 c9 c10 bxF HCA;dsimp only
     gi_wp2
     exact ⟨HKF.out,YV.out,HP.out⟩
    ·have q1:(kd==14)=false:=by rw [beq_eq_false_iff_ne];exact hk
     have HP:Hid (BtI Bb W0.heap.size S w W0 (pre++[x]) W):=by
      have hno:qH (BV.blk ⟨kd,lv,i,t,d,ti,at_,li,ks,.slice ac nc cc,.slice ap np cp,.slice al nl2 cl,.slice ak nk ck⟩)=[]:=by show qH (.mk kd lv i t d ti at_ li ks)=_;unfold qH;exact if_neg hk
      refine ⟨?_,HN.out.2⟩;rw [HEQ.out,hno,jI9];exact HN.out.1
     clear hk Ob hR hNK
     gi_wp2
     exact ⟨(KeepsOthers.refl _).from _,xB.refl _ _ _,HP.out⟩
   case done=>
    rintro D pre W hD hpre hN hK;rw [BtI,hpre] at hN;obtain ⟨⟨wB,rows,vN,hzB,hrow,hbx⟩,hkp⟩:=hN;have hnt:(ah.aV l).flatMap qH=oz l:=rfl;rw [hnt] at hrow;obtain ⟨m,hm⟩:∃ m,m=((oz l).map Nd.d).length:=⟨_,rfl⟩;have hm1:m<=900000:=by rw [hm,jG1];exact jFq (l6 (ah.aV l)) HEL.out
    obtain ⟨av,cv,rfl,-,-⟩:=hrow.cap hm.symm;have hbl:jIx S w W:=bl0.trans (hkp.below (S:=S) hSB hBN);have hDW:D<W.heap.size:=(Array.getElem?_eq_some_iff.1 hK).1;have hBZ:w5.heap.size=Bf:=HU5.out;obtain ⟨wO,hzO,hrO⟩:=HR5.out.reU (w':=W) hkp.size (fun b h1 h2=>hkp.blk b (by omega) (by have:=Z4.out;omega));have HO:=hid hrO;have HZO:=hid hzO;have HK:=hid hK;have qp:=hid hbl;have bE:=hid hrow;have Ga:=hid hzB;have HSW:=hid hkp.size;have x0:=hbx.cell;have BXF:Hid (∀ y:jIq,jIx W.heap.size W y->y.cell? ⟨Bb,0,none⟩=some (.slice av m cv)):=fun y hy=>(hbx.below (by have:=hkp.size;omega) hy).cell
    have hml:(oz l).length=m:=by rw [hm,jG1]
    have HML:=hid hml;clear hrO hzO hK hbl hrow hzB hbx hpre hm hkp hml hnt;by_cases hm0:m=0
    ·have q8:¬ (0:Int)<(m:Int):=by omega
     have HF:Hid (bM w EE NN (.returned (.tuple #[.slice a5 n5 c5,.int .i64 0])) W):=by
      have Jw:NN=ah.aZ l:=by rw [R8.out];unfold fZ;rw [if_pos (by rw [List.isEmpty_iff,<- List.length_eq_zero_iff,HML.out];exact hm0),jI9]
      rw [HE.out,Jw];exact ⟨_,_,rfl,(HO.out.l7 (by have:=HZO.out;have:=HS.out;have:=Z4.out;omega) (by rw [<- HS.out];exact qp.out)).top⟩
     have HF2:=hid (HF.out.jw1 (by have:=HS.out;omega) HK.out);clear HF;go_wp2;exact Vj rfl HK.out (fun w'=>by simp [results,results12,go_sem]) HF2.out
    ·have q8:(0:Int)<(m:Int):=by omega
     have Jw:NN=ah.aZ l++[aH R9 [⟨dD,eU⟩] (oz l)]:=by rw [R8.out];unfold fZ;rw [if_neg (by rw [List.isEmpty_iff,<- List.length_eq_zero_iff,HML.out];exact hm0)]
     have jB6:=hid Jw;clear Jw;go_upto_region 14 with (fail)
     refine LD ?_;refine Jv 9 (fun w'=>w'.cell? ⟨Bb,0,none⟩=some (.slice av m cv)) (by kernel_rfl) (BXF.out W.drew (jFj _ _).drew) ?_;intro hH;refine gX (i:=0) (v:=?_) rfl (by kernel_rfl) (by kernel_rfl) (by kernel_rfl) (by kernel_rfl) (by kernel_rfl) (fun _ _ _ h=>absurd rfl (h.1 _)) hH (Or.inl ⟨by rfl,?_⟩) ?_;rotate_left
     ·exact Oa
     refine gX (i:=3) (v:=?_) rfl (by kernel_rfl) (by kernel_rfl) (by kernel_rfl) (by kernel_rfl) (by kernel_rfl) (fun _ _ _ h=>absurd rfl (h.1 _)) hH (Or.inl ⟨by rfl,?_⟩) ?_;rotate_left
     ·exact Oa
     refine gX (i:=4) (v:=?_) rfl (by kernel_rfl) (by kernel_rfl) (by kernel_rfl) (by kernel_rfl) (by kernel_rfl) (fun _ _ _ h=>absurd rfl (h.1 _)) hH (Or.inl ⟨by rfl,?_⟩) ?_;rotate_left
     ·exact Oa
     refine gX (i:=5) (v:=?_) rfl (by kernel_rfl) (by kernel_rfl) (by kernel_rfl) (by kernel_rfl) (by kernel_rfl) (fun _ _ _ h=>absurd rfl (h.1 _)) hH (Or.inl ⟨by rfl,?_⟩) ?_;rotate_left
     ·exact Oa
     obtain ⟨y0,hy0⟩:∃ y0,y0=W.drew:=⟨_,rfl⟩;have o9:jIx W.heap.size W y0:=by rw [hy0];exact (jFj _ _).drew
     rw [<- hy0] at hH;rw [<- hy0];clear hy0;have PC:Hid (Calls prog 18 #[.slice (some ⟨y0.heap.size,0,none⟩) 2 2] (y0.alloc (.cells #[.string ⟨#[99,108,97,115,115]⟩,.string ⟨#[110,111,116,101,115]⟩] 9)) (aW (y0.alloc (.cells #[.string ⟨#[99,108,97,115,115]⟩,.string ⟨#[110,111,116,101,115]⟩] 9)) [⟨dD,eU⟩])):=XR dD eU y0;refine eF (i:=1) rfl (by kernel_rfl) (fun KQ hK=>?_);go_simp;have B1:jIx W.heap.size W (y0.alloc (.cells #[.string ⟨#[99,108,97,115,115]⟩,.string ⟨#[110,111,116,101,115]⟩] 9)):=o9.alloc o9.size _;refine hK.out _ _ (fun _ _=>BXF.out _ B1) (fun hH2=>?_);clear hK KQ hH;refine aN ?_;clear hH2;intro hH;refine eF (i:=2) rfl (by kernel_rfl) (fun KQ hK=>?_);go_simp;go_at_call 18
     (with_reducible refine (PC.out).mono ?_)
     rintro e y2 ⟨bD,v2,rfl,hrow2⟩;obtain ⟨a9,c9,rfl,-,-⟩:=hrow2.cap (n:=1) rfl;have B2:jIx W.heap.size W y2:=B1.trans (hrow2.aO.mono B1.size);have PR2:=hid (show Rd (W.heap.size<=·) y2 (fJ [⟨dD,eU⟩]) [.slice a9 1 c9] from hrow2.cu.weaken (fun b hb=>jFq B1.size hb));clear hrow2 PC;refine hK.out _ _ (fun _ _=>BXF.out _ B2) (fun hH2=>?_);clear hK KQ hH;refine aN ?_;clear hH2;intro hH;refine mP ?_;intro KQ hK;go_at_call 17
     (with_reducible refine (mg ⟨#[115,101,99,116,105,111,110]⟩ a9 av 1 m c9 cv y2).mono ?_)
     rintro e y3 ⟨rfl,hb⟩;have B3:jIx W.heap.size W y3:=B2.trans (hb.mono B2.size);have XD:=hid (show Rd (fun b=>False\/w5.heap.size<=b) y3 (aH R9 [⟨dD,eU⟩] (oz l)).d [.string ⟨#[115,101,99,116,105,111,110]⟩,.string ⟨#[]⟩,.slice a9 1 c9,.slice av m cv] from (Nd.dJ ⟨#[115,101,99,116,105,111,110]⟩ ⟨#[]⟩ ⟨(PR2.out.aX hb).weaken (fun b (hb:W.heap.size<=b)=>by have:=HSW.out;show w5.heap.size<=b;omega),(bE.out.cu.aX B3).weaken (fun b (hb:wB.heap.size<=b)=>by have:=Ga.out;show w5.heap.size<=b;omega)⟩).weaken (fun b hb=>.inr hb));have U3:=hid (HO.out.below B3);have K3:=hid (show y3.heap[D]?=some (.deferred (some [])) from (B3.block D hDW).trans HK.out);have hD3:D<y3.heap.size:=Nat.lt_of_lt_of_le hDW B3.size;clear hb;refine hK.out _ _ (fun _ _=>BXF.out _ B3) (fun hH2=>?_);clear hK KQ hH;refine aN ?_;clear hH2;intro hH;refine GQ ?_;intro KQ hK;refine hK.out _ _ (fun _ _=>BXF.out _ (B3.alloc B3.size _)) (fun hH2=>?_);clear hK KQ hH;refine aN ?_;clear hH2;intro hH;refine eF (i:=8) rfl (by kernel_rfl) (fun KQ hK=>?_);refine lC (n:=n5) rfl (.tmp 34) (.tmp 41) 28 rfl iN _ 80 underlying28 qG fF fG fH rfl (by decide) U3.out (fun _=>False.elim) (aH R9 [⟨dD,eU⟩] (oz l)).d [.string ⟨#[115,101,99,116,105,111,110]⟩,.string ⟨#[]⟩,.slice a9 1 c9,.slice av m cv] XD.out rfl F9 HN5.out (by omega) (by decide) rfl rfl ?_;intro a6 c6 w8 og hg8;have hoD:some D≠(Value.slice a5 n5 c5).ownBlock:=fun e=>by have:=U3.out.oU D e.symm;omega
     have K8:w8.heap[D]?=some (.deferred (some [])):=(hg8.block D (by rw [jG8];omega) hoD).trans ((Below.heap_alloc y3 _ D hD3).trans K3.out);have B8:jIx w.heap.size w w8:=by have h1:jIx S wO w8:=og.aO.mono (by have:=HZO.out;have:=Z4.out;omega);have h2:jIx S w y3:=qp.out.trans (B3.mono (by have:=qp.out.size;have:=HS.out;omega));rw [<- HS.out];exact (h2.alloc (by have:=h2.size;have:=HS.out;omega) _).grown hg8 (by rw [jG8];have:=h2.size;have:=HS.out;omega) (fun j hj=>by have:=U3.out.own.lt j hj;have:=HZO.out;have:=Z4.out;omega)
     have HF:bM w EE NN (.returned (.tuple #[.slice a6 (n5+1) c6,.int .i64 0])) w8:=by rw [HE.out,jB6.out];refine ⟨nZ++[[.string ⟨#[115,101,99,116,105,111,110]⟩,.string ⟨#[]⟩,.slice a9 1 c9,.slice av m cv]],_,rfl,?_⟩;rw [List.map_append];exact og.l7 (by have:=HZO.out;have:=HS.out;have:=Z4.out;omega) B8
     have HF2:=hid (HF.jw1 (by have:=HS.out;omega) K8);have HK8:=hid K8;have cb8:w8.cell? ⟨Bb,0,none⟩=some (.slice av m cv):=by
      have hBl:Bb<y3.heap.size:=by omega
      rw [jy (hg8.block Bb (by rw [jG8];omega) (fun e=>by have:=(U3.out.own.lt Bb e.symm).1;have:=HZO.out;have:=Z4.out;omega))];exact BXF.out _ (B3.alloc B3.size _)
     clear og hg8 HF B8 K8 hoD;refine hK.out _ _ (fun _ _=>cb8) (fun hH2=>?_);clear hK KQ hH;refine aN ?_;clear hH2;intro hH;refine eF (i:=9) rfl (by kernel_rfl) (fun KQ hK=>?_);refine nX ?_;clear hK KQ hH;refine OQ (by kernel_rfl) ?_ _;refine ⟨fun _ h=>(by cases h),?_⟩;clear XD U3 PR2;go_wp2;exact Vj rfl HK8.out (fun w'=>by simp [results,results12,go_sem]) HF2.out
 ·have q1:((E0:Int) != 0)=true:=by rw [bne_iff_ne];omega
  have HF:Hid (bM w EE NN (.returned (.tuple #[.slice none 0 0,.int .i64 (E0:Int)])) w1):=by
   have h5:EE=E0:=by rw [BK.out,if_pos (by simpa using h0)]
   rw [h5];exact bM.nil (by rw [QK.out,h5,if_neg h0]) (by rw [<- HS.out];exact B1.out)
  clear h0;go_wp2;exact Vi rfl (by simp [results,results12,go_sem]) HF.out
open Go.RowKit
theorem YW {ok:Nat->Prop} {w:jIq} {n t:ByteArray} {a:List Pr} {ks:List Nd} {va vk:jIz} (h:Rd ok w (Nd.mk n t a ks).d [.string n,.string t,va,vk]):Rd ok w (gH ks) [vk]:=by obtain ⟨va',vk',e,hR⟩:=Nd.open_ h;simp only [List.cons.injEq,and_true,true_and] at e;obtain ⟨rfl,rfl⟩:=e;exact hR.ks
def PgX (w w':jIq) (title:ByteArray) (at_:List Pr) (va vk:jIz):Prop:=
 ∃ (p3:Nat) (kh bv:jIz),vk=.slice (some ⟨p3,0,none⟩) 2 2/\w.heap.size<=p3/\CB 30 p3 [.string jK,.string ⟨#[]⟩,.slice none 0 0,kh,.string lQ,.string ⟨#[]⟩,.slice none 0 0,bv] w' /\
  Rd (fun b=>w.heap.size<=b/\b<p3) w' (gH [aH fI [⟨wu,dL⟩] [],aH Fb [] (bK title)]) [kh]/\Rd (fun b=>w.heap.size<=b/\b<p3) w' (fJ at_) [va]
def kI (w:jIq) (title:ByteArray) (E:Nat) (x:Nd) (e:Ending) (w':jIq):Prop:=
 ∃ va vk,e=.returned (.tuple #[.agg #[.string x.nm,.string x.tx,va,vk],.int .i64 (E:Int)])/\gP (w.heap.size<=·) w' x.at_ x.ks va vk/\jIx w.heap.size w w'/\(E=0->PgX w w' title x.at_ va vk)
theorem kI.of {w w':jIq} {title:ByteArray} {E:Nat} {E':Int} {x:Nd} {v:jIz} (h:o8 w x (.returned v) w') (hE:E'=(E:Int)) (hx:E=0->∀ va vk,v=.agg #[.string x.nm,.string x.tx,va,vk]->PgX w w' title x.at_ va vk):kI w title E x (.returned (.tuple #[v,.int .i64 E'])) w':=by
 obtain ⟨va,vk,he,h1,h2⟩:=h;subst hE;injection he with he
 exact ⟨va,vk,by rw [he],h1,h2,fun h0=>hx h0 va vk he⟩
theorem Ua{P Q:Prop}(q:Q)(h:Nonempty Q->P:=by
 intro qQ;have X0:Hid (∀ W:jIq,jIx W0.heap.size W0 W->W.cell? ⟨S,1,none⟩=some (.slice ab nb cb)):=fun W hW=>(k0.below hW).cell 1 _ rfl
 have x0:=k0.cell 0 _ rfl;have x1:=k0.cell 1 _ rfl;revert X0 x0 x1;exact qQ.elim fun x=>x):P:=h ⟨q⟩
theorem jg2{P Q:Prop}(q:Q)(h:Nonempty Q->P:=by
 intro qQ;obtain ⟨x0,x1,x2,x3,xf⟩:=pq (K1.out.below B2.out);obtain ⟨w9,bZ⟩:∃ w9,w9=jV w2 (S+1) (.string ⟨#[]⟩) (.string ⟨#[]⟩) (.slice none 0 0) (.slice none 0 0):=⟨_,rfl⟩;have hf:=uP ⟨#[]⟩ ⟨#[]⟩ [] [] xq.out Z0.out B0.out K1.out B2.out ⟨Rd.aD _ _ _,Rd.aD _ _ _⟩;rw [<- bZ] at hf;revert x0 x1 x2 x3 xf w9 bZ hf;exact qQ.elim fun x=>x):P:=h ⟨q⟩
theorem jd8{P Q:Prop}(q:Q)(h:Nonempty Q->P:=by
 intro qQ;obtain ⟨x0,x1,x2,x3,xf⟩:=pq (K1.out.below B1.out);obtain ⟨w9,bZ⟩:∃ w9,w9=jV w1 (S+1) (.string ⟨#[]⟩) (.string ⟨#[]⟩) (.slice none 0 0) (.slice none 0 0):=⟨_,rfl⟩;have hf:=uP ⟨#[]⟩ ⟨#[]⟩ [] [] xq.out Z0.out B0.out K1.out B1.out ⟨Rd.aD _ _ _,Rd.aD _ _ _⟩;rw [<- bZ] at hf;revert x0 x1 x2 x3 xf w9 bZ hf;exact qQ.elim fun x=>x):P:=h ⟨q⟩
theorem LH (me:List Pr) (l:List ah) (title lang:ByteArray) (vm vb:jIz) (w:jIq) (hm:Rd (·<w.heap.size) w (fJ me) [vm]) (hb:Rd (·<w.heap.size) w (lu l) [vb]) (hme:me.length<=1000) (fQ:∀ p∈me,p.key.size<=1000/\p.val.size<=1000) (hall:ah.bX l<=32768) (hsm:ah.aC l) (hsz:ah.aY l<=900000) (hil:(ah.aR l).length<=1000) (hbd:ah.uG l) (hti:title.size<=300) (hla:lang.size<=300) (ht:PT w) : Calls prog 6 #[.agg #[vm,vb],.string title,.string lang] w (kI w title (KY me l title lang) (NJ me l title lang)):=by
 obtain ⟨am,cm,T9,-⟩:=Rd.ay hm;obtain ⟨nm,hnm⟩:∃ nm,nm=me.length:=⟨_,rfl⟩;obtain rfl:vm=.slice am nm cm:=by rw [hnm];simpa using T9
 obtain ⟨ab,nb,cb,rfl⟩:=Rd.au hb;clear T9;obtain ⟨S,W0,hS,hW0,z0,k0,k1,b0⟩:=uU 25 w [.slice am nm cm,.slice ab nb cb];have Pq:jIx w.heap.size w W0:=by rw [<- hS];exact b0
 have CK:=JM gG me l am ab cm nb cb W0 hme fQ hall hsm (fun _=>IQ) (by rw [<- hnm];exact hm.up Pq) (hb.up Pq);rw [<- hnm] at CK;have BC:Hid (∀ W:jIq,jIx W0.heap.size W0 W->Calls prog 12 #[.slice ab nb cb] W (bM W (xK l) (O5 l))):=fun W hW=>Fa l _ W (hb.up (Pq.trans (hW.mono Pq.size))) hsm hsz hil hbd (ht.below (Pq.trans (hW.mono Pq.size)))
 have LC:Hid (∀ W:jIq,Calls prog 15 #[.string title] W (dP (.bool (dG title)) W)):=fun W=>by
  have h:=H6 title W (by omega);rw [P5] at h;exact h
 have NC:Hid (∀ W:jIq,Calls prog 16 #[.string lang] W (fun e w'=>e=.returned (.bool (dU lang))/\W=w')):=fun W=>QA lang W (by omega)
 obtain ⟨EE,vV⟩:∃ EE,EE=KY me l title lang:=⟨_,rfl⟩;obtain ⟨E0,hE0⟩:∃ E0,E0=Cw gG me l:=⟨_,rfl⟩;obtain ⟨T,hT⟩:∃ T,T=dG title:=⟨_,rfl⟩;obtain ⟨G,hG⟩:∃ G,G=dU lang:=⟨_,rfl⟩;obtain ⟨EB,hEB⟩:∃ EB,EB=xK l:=⟨_,rfl⟩;obtain ⟨NB,hNB⟩:∃ NB,NB=O5 l:=⟨_,rfl⟩;have hee:EE=if E0≠0 then E0 else if T=false then 17 else if G=false then 6 else EB:=by
  rw [vV,hE0,hT,hG,hEB];unfold KY;by_cases h0:Cw gG me l≠0
  ·rw [if_pos h0,if_pos h0]
  ·rw [if_neg h0,if_neg h0];have h1:xK l=if (ah.aR l).any eB=true then 5 else 0:=by
    unfold xK;rw [if_neg (by rw [Vd (Classical.not_not.1 h0)];simp)]
   rw [h1]
 have hpn:NJ me l title lang=if EE=0 then zO title lang (fZ l) else wE:=by rw [vV];rfl
 have hnb:EB=0->NB=fZ l:=fun h=>by rw [hNB];unfold O5;rw [if_pos (hEB.symm.trans h)]
 rw [<- hE0] at CK;rw [<- hT] at LC;rw [<- hG] at NC;rw [<- hEB,<- hNB] at BC;rw [<- vV];have HCK:=hid CK;have BK:=hid hee;have HPN:=hid hpn;have HNB:=hid hnb;refine Cy ?_;intro xq HW0 Z0 B0 K1;refine Ua ?_;intro X0 x0 x1;clear CK hm hb hme fQ hall hsm hsz hil hbd hti hla ht vV hE0 hT hG hEB hNB hee hpn hnb hS hW0 z0 b0 k1 k0 Pq hnm;go_enter func6,ntmps6;go_upto_region 1 with (fail)
 rw [<- xq.out];refine Cz ?_;go_wp2_with fail
 (with_reducible refine HCK.out.mono ?_)
 rintro e w1 ⟨rfl,b1⟩;have B1:=hid b1;clear b1 HCK x0 x1;by_cases h0:E0=0
 ·have q1:((E0:Int) != 0)=false:=by rw [h0];rfl
  have NH:Hid (EE=if T=false then 17 else if G=false then 6 else EB):=by show _=_;rw [BK.out,if_neg (by simp [h0])]
  have LT:=hid (LC.out w1);clear h0 BK;go_wp2_with fail
  (with_reducible refine LT.out.mono ?_)
  rintro e w2 ⟨rfl,b2⟩;have B2:=hid (q01 B1.out b2);clear b2 LT;cases T with
  | false=>
   have jw4:=hid (show EE=17 by rw [NH.out];rfl);have Yj:=hid (show NJ me l title lang=wE by rw [HPN.out,jw4.out];rfl);refine jg2 ?_;intro x0 x1 x2 x3 xf w9 bZ hf;refine qK ?_;clear hf bZ;intro vT sN hw8;go_wp2;refine lD ?_;intro r0 r1 r2 r3;exact bodyPost_ret (v:=.tuple #[.agg #[.string ⟨#[]⟩,.string ⟨#[]⟩,.slice none 0 0,.slice none 0 0],.int .i64 (17)]) (by simp [results,results6,go_sem,r0,r1,r2,r3]) rfl (by rw [Yj.out,jw4.out];exact kI.of sN.out (by simp) (fun h=>by cases h))
  | true=>
   have NT:=hid (NC.out w2);go_wp2_with fail
   (with_reducible refine NT.out.mono ?_)
   rintro e w3 ⟨rfl,hw3⟩;rw [<- hw3];clear NT hw3 w3;cases G with
   | false=>
    have HE6:=hid (show EE=6 by rw [NH.out];rfl);have Yj:=hid (show NJ me l title lang=wE by rw [HPN.out,HE6.out];rfl);refine jg2 ?_;intro x0 x1 x2 x3 xf w9 bZ hf;refine qK ?_;clear hf bZ;intro vT sN hw8;go_wp2;refine lD ?_;intro r0 r1 r2 r3;exact bodyPost_ret (v:=.tuple #[.agg #[.string ⟨#[]⟩,.string ⟨#[]⟩,.slice none 0 0,.slice none 0 0],.int .i64 (6)]) (by simp [results,results6,go_sem,r0,r1,r2,r3]) rfl (by rw [Yj.out,HE6.out];exact kI.of sN.out (by simp) (fun h=>by cases h))
   | true=>
    have HEB:=hid (show EE=EB by rw [NH.out];rfl);have BT:=hid (BC.out w2 B2.out);have x1:=X0.out w2 B2.out;go_wp2_with fail
    (with_reducible refine BT.out.mono ?_)
    rintro e w3 ⟨dH,v3,rfl,hrow3⟩;obtain ⟨a3,n3,c3,rfl⟩:=hrow3.slice3;have B3:=hid (q01 B2.out hrow3.aO);have KB3:=hid (show Rd (W0.heap.size<=·) w3 (gH NB) [.slice a3 n3 c3] from hrow3.cu.weaken (fun b (hb:w2.heap.size<=b)=>jFq B2.out.size hb));clear hrow3 BT x1;by_cases hB0:EB=0
    ·have q2:((EB:Int) != 0)=false:=by rw [hB0];rfl
     have HPF:=hid (show NJ me l title lang=zO title lang (fZ l) by rw [HPN.out,if_pos (by rw [HEB.out,hB0])]);have H0:=hid (show EE=0 by rw [HEB.out,hB0]);have KP3:=hid (show Rd (W0.heap.size<=·) w3 (gH (fZ l)) [.slice a3 n3 c3] by rw [<- HNB.out hB0];exact KB3.out);clear hB0 KB3;have PC:Hid (Calls prog 18 #[.slice (some ⟨w3.heap.size,0,none⟩) 2 2] (w3.alloc (.cells #[.string ⟨#[99,104,97,114,115,101,116]⟩,.string ⟨#[117,116,102,45,56]⟩] 9)) (aW (w3.alloc (.cells #[.string ⟨#[99,104,97,114,115,101,116]⟩,.string ⟨#[117,116,102,45,56]⟩] 9)) [⟨wu,dL⟩])):=XR wu dL w3;have bA:jIx w3.heap.size w3 (w3.alloc (.cells #[.string ⟨#[99,104,97,114,115,101,116]⟩,.string ⟨#[117,116,102,45,56]⟩] 9)):=(jFj _ _).alloc (jFk _) _;go_wp2_with fail
     (with_reducible refine PC.out.mono ?_)
     rintro e w4 ⟨bG,v4,rfl,hrow4⟩;obtain ⟨a4,c4,rfl,-,-⟩:=hrow4.cap (n:=1) rfl;have b34:jIx w3.heap.size w3 w4:=bA.trans (hrow4.aO.mono bA.size);have B4:=hid (q01 B3.out b34);have Dk:=hid (show Rd (W0.heap.size<=·) w4 (fJ [⟨wu,dL⟩]) [.slice a4 1 c4] from hrow4.cu.weaken (fun b hb=>jFq B3.out.size (jFq bA.size hb)));have KP4:=hid (KP3.out.aX b34);have EC1:=hid (mg ⟨#[109,101,116,97]⟩ a4 none 1 0 c4 0 w4);clear hrow4 bA b34 PC KP3;go_wp2_with fail
     (with_reducible refine EC1.out.mono ?_)
     rintro e w5 ⟨rfl,b5⟩;have B5:=hid (q01 B4.out b5);have XM5:=hid (show Rd (W0.heap.size<=·) w5 (aH fI [⟨wu,dL⟩] []).d [.string ⟨#[109,101,116,97]⟩,.string ⟨#[]⟩,.slice a4 1 c4,.slice none 0 0] from Nd.dJ ⟨#[109,101,116,97]⟩ ⟨#[]⟩ ⟨Dk.out.aX b5,Rd.aD _ _ _⟩);have KP5:=hid (KP4.out.aX b5);have DC:=hid (jD title w5);clear b5 EC1 Dk KP4;go_wp2_with fail
     (with_reducible refine DC.out.mono ?_)
     rintro e w6 ⟨ja3,v6,rfl,dF⟩;obtain ⟨a6,n6,c6,rfl⟩:=dF.slice3;have B6:=hid (q01 B5.out dF.aO);have XM6:=hid (XM5.out.aX dF.aO);have KP6:=hid (KP5.out.aX dF.aO);have KT6:=hid (show Rd (W0.heap.size<=·) w6 (gH (bK title)) [.slice a6 n6 c6] from dF.cu.weaken (fun b (hb:w5.heap.size<=b)=>jFq B5.out.size hb));have TA:=hid (mg ⟨#[116,105,116,108,101]⟩ none a6 0 n6 0 c6 w6);clear dF DC XM5 KP5;go_wp2_with fail
     (with_reducible refine TA.out.mono ?_)
     rintro e w7 ⟨rfl,b7⟩;have B7:=hid (q01 B6.out b7);have KD7:=hid (xM (ok:=(W0.heap.size<=·)) (w:=w7) (x:=(aH fI [⟨wu,dL⟩] [])) (y:=(aH Fb [] (bK title))) B7.out.size (XM6.out.aX b7) (Nd.dJ ⟨#[116,105,116,108,101]⟩ ⟨#[]⟩ ⟨Rd.aD _ _ _,KT6.out.aX b7⟩));have bA:jIx w7.heap.size w7 (w7.alloc (.cells #[.string ⟨#[109,101,116,97]⟩,.string ⟨#[]⟩,.slice a4 1 c4,.slice none 0 0,.string ⟨#[116,105,116,108,101]⟩,.string ⟨#[]⟩,.slice none 0 0,.slice a6 n6 c6] 30)):=(jFj _ _).alloc (jFk _) _;have BA7:=hid (q01 B7.out bA);have KP7:=hid ((KP6.out.aX b7).aX bA);obtain ⟨p7,SK⟩:∃ p7,p7=w7.heap.size:=⟨_,rfl⟩;have HP7:=hid SK;have EC3:=mg ⟨#[104,101,97,100]⟩ none (some ⟨p7,0,none⟩) 0 2 0 2 (w7.alloc (.cells #[.string ⟨#[109,101,116,97]⟩,.string ⟨#[]⟩,.slice a4 1 c4,.slice none 0 0,.string ⟨#[116,105,116,108,101]⟩,.string ⟨#[]⟩,.slice none 0 0,.slice a6 n6 c6] 30));rw [<- SK] at KD7;have EC3:=hid EC3;clear b7 TA XM6 KP6 KT6 bA SK;go_wp2_with fail
     rw [<- HP7.out]
     (with_reducible refine EC3.out.mono ?_)
     rintro e w8 ⟨rfl,b8⟩;have B8:=hid (q01 BA7.out b8);have XH8:=hid (show Rd (W0.heap.size<=·) w8 (aH jK [] [(aH fI [⟨wu,dL⟩] []),(aH Fb [] (bK title))]).d [.string ⟨#[104,101,97,100]⟩,.string ⟨#[]⟩,.slice none 0 0,.slice (some ⟨p7,0,none⟩) 2 2] from Nd.dJ ⟨#[104,101,97,100]⟩ ⟨#[]⟩ ⟨Rd.aD _ _ _,KD7.out.aX b8⟩);have KP8:=hid (KP7.out.aX b8);obtain ⟨Bh,hBh⟩:∃ Bh,Bh=w8.heap.size:=⟨_,rfl⟩;obtain ⟨wH,hwH⟩:∃ wH,wH=w8.alloc (.cells #[.string ⟨#[104,101,97,100]⟩,.string ⟨#[]⟩,.slice none 0 0,.slice (some ⟨p7,0,none⟩) 2 2] 30):=⟨_,rfl⟩;have bH:jIx w8.heap.size w8 wH:=by rw [hwH];exact (jFj _ _).alloc (jFk _) _
     have kH:CB 30 Bh [.string ⟨#[104,101,97,100]⟩,.string ⟨#[]⟩,.slice none 0 0,.slice (some ⟨p7,0,none⟩) 2 2] wH:=by rw [hwH,hBh];exact CB.new _ _ _
     have BH:=hid (q01 B8.out bH);have XHH:=hid (XH8.out.aX bH);have KPH:=hid (KP8.out.aX bH);have HCH:Hid (∀ y:jIq,jIx wH.heap.size wH y->y.cell? ⟨Bh,0,none⟩=some (.string ⟨#[104,101,97,100]⟩)/\y.cell? ⟨Bh,1,none⟩=some (.string ⟨#[]⟩)/\y.cell? ⟨Bh,2,none⟩=some (.slice none 0 0)/\y.cell? ⟨Bh,3,none⟩=some (.slice (some ⟨p7,0,none⟩) 2 2)):=fun y hy=>⟨(kH.below hy).cell 0 _ rfl,(kH.below hy).cell 1 _ rfl,(kH.below hy).cell 2 _ rfl,(kH.below hy).cell 3 _ rfl⟩
     clear b8 EC3 KD7 KP7 XH8 KP8 bH kH;go_upto_region 12 with (fail)
     rw [<- hwH,<- hBh];clear hwH hBh;refine Jv 8 (fun w'=>jIx wH.heap.size wH w') (by kernel_rfl) (jFj _ _).drew ?_;intro hH;refine fq 0 rfl (by kernel_rfl) hH (by rfl) (by intro wv hSw;obtain ⟨c0,c1,c2,c3⟩:=HCH.out wv hSw;go_simp;try with_reducible rfl) ?_;refine fq 3 rfl (by kernel_rfl) hH (by rfl) (by intro wv hSw;obtain ⟨c0,c1,c2,c3⟩:=HCH.out wv hSw;go_simp;try with_reducible rfl) ?_;refine fq 4 rfl (by kernel_rfl) hH (by rfl) (by intro wv hSw;obtain ⟨c0,c1,c2,c3⟩:=HCH.out wv hSw;go_simp;try with_reducible rfl) ?_;obtain ⟨y0,hy0⟩:∃ y0,y0=wH.drew:=⟨_,rfl⟩;have o9:jIx wH.heap.size wH y0:=by rw [hy0];exact (jFj _ _).drew
     rw [<- hy0] at hH;rw [<- hy0];clear hy0;have LC2:Hid (Calls prog 18 #[.slice (some ⟨y0.heap.size,0,none⟩) 2 2] (y0.alloc (.cells #[.string ⟨#[108,97,110,103]⟩,.string lang] 9)) (aW (y0.alloc (.cells #[.string ⟨#[108,97,110,103]⟩,.string lang] 9)) [⟨eY,lang⟩])):=XR eY lang y0;refine eF (i:=1) rfl (by kernel_rfl) (fun KQ hK=>?_);go_simp;have B1y:jIx wH.heap.size wH (y0.alloc (.cells #[.string ⟨#[108,97,110,103]⟩,.string lang] 9)):=o9.alloc o9.size _;refine hK.out _ _ (fun _ _=>B1y) (fun hH2=>?_);clear hK KQ hH;refine aN ?_;clear hH2;intro hH;refine eF (i:=2) rfl (by kernel_rfl) (fun KQ hK=>?_);go_simp;go_at_call 18
     (with_reducible refine (LC2.out).mono ?_)
     rintro e y2 ⟨bD,v2,rfl,hrow2⟩;obtain ⟨a9,c9,rfl,-,-⟩:=hrow2.cap (n:=1) rfl;have B2y:jIx wH.heap.size wH y2:=B1y.trans (hrow2.aO.mono B1y.size);have PR2:=hid (show Rd (W0.heap.size<=·) y2 (fJ [⟨eY,lang⟩]) [.slice a9 1 c9] from hrow2.cu.weaken (fun b hb=>jFq BH.out.size (jFq B1y.size hb)));clear hrow2 LC2;refine hK.out _ _ (fun _ _=>B2y) (fun hH2=>?_);clear hK KQ hH;refine aN ?_;clear hH2;intro hH;refine zh ?_;intro KQ hK;go_at_call 17
     (with_reducible refine (mg ⟨#[98,111,100,121]⟩ none a3 0 n3 0 c3 y2).mono ?_)
     rintro e y3 ⟨rfl,hb⟩;have B3y:jIx wH.heap.size wH y3:=B2y.trans (hb.mono B2y.size);have PR3:=hid (PR2.out.aX hb);have KD3:=hid (xM (ok:=(W0.heap.size<=·)) (w:=y3) (x:=(aH jK [] [(aH fI [⟨wu,dL⟩] []),(aH Fb [] (bK title))])) (y:=(aH lQ [] (fZ l))) (jFq BH.out.size B3y.size) (XHH.out.aX B3y) (Nd.dJ ⟨#[98,111,100,121]⟩ ⟨#[]⟩ ⟨Rd.aD _ _ _,KPH.out.aX B3y⟩));have HXK:=hid (show Rd (fun b=>W0.heap.size<=b/\b<y3.heap.size) y3 (gH [aH fI [⟨wu,dL⟩] [],aH Fb [] (bK title)]) [.slice (some ⟨p7,0,none⟩) 2 2] from (YW (XHH.out.aX B3y)).inside);have HXA:=hid (show Rd (fun b=>W0.heap.size<=b/\b<y3.heap.size) y3 (fJ [⟨eY,lang⟩]) [.slice a9 1 c9] from PR3.out.inside);clear hb PR2;refine hK.out _ _ (fun _ _=>B3y) (fun hH2=>?_);clear hK KQ hH;refine aN ?_;clear hH2;intro hH;refine mP ?_;intro KQ hK;have bA:jIx y3.heap.size y3 (y3.alloc (.cells #[.string ⟨#[104,101,97,100]⟩,.string ⟨#[]⟩,.slice none 0 0,.slice (some ⟨p7,0,none⟩) 2 2,.string ⟨#[98,111,100,121]⟩,.string ⟨#[]⟩,.slice none 0 0,.slice a3 n3 c3] 30)):=(jFj _ _).alloc (jFk _) _;have B6y:jIx wH.heap.size wH (y3.alloc (.cells #[.string ⟨#[104,101,97,100]⟩,.string ⟨#[]⟩,.slice none 0 0,.slice (some ⟨p7,0,none⟩) 2 2,.string ⟨#[98,111,100,121]⟩,.string ⟨#[]⟩,.slice none 0 0,.slice a3 n3 c3] 30)):=B3y.trans (bA.mono B3y.size);have Xu:=hid (PR3.out.aX bA);have jq8:=hid (HXK.out.aX bA);have jq9:=hid (HXA.out.aX bA);have jqj:=hid (CB.new 30 [.string ⟨#[104,101,97,100]⟩,.string ⟨#[]⟩,.slice none 0 0,.slice (some ⟨p7,0,none⟩) 2 2,.string ⟨#[98,111,100,121]⟩,.string ⟨#[]⟩,.slice none 0 0,.slice a3 n3 c3] y3);have HY3:=hid B3y.size;obtain ⟨y6,hN⟩:∃ y6,y6=y3.alloc (.cells #[.string ⟨#[104,101,97,100]⟩,.string ⟨#[]⟩,.slice none 0 0,.slice (some ⟨p7,0,none⟩) 2 2,.string ⟨#[98,111,100,121]⟩,.string ⟨#[]⟩,.slice none 0 0,.slice a3 n3 c3] 30):=⟨_,rfl⟩;obtain ⟨p3,hf⟩:∃ p3,p3=y3.heap.size:=⟨_,rfl⟩;rw [<- hN,<- hf] at KD3;rw [<- hN] at Xu B6y;have jq8:Hid (Rd (fun b=>W0.heap.size<=b/\b<p3) y6 (gH [aH fI [⟨wu,dL⟩] [],aH Fb [] (bK title)]) [.slice (some ⟨p7,0,none⟩) 2 2]):=by show Rd _ _ _ _;rw [hf,hN];exact jq8.out
     have jq9:Hid (Rd (fun b=>W0.heap.size<=b/\b<p3) y6 (fJ [⟨eY,lang⟩]) [.slice a9 1 c9]):=by show Rd _ _ _ _;rw [hf,hN];exact jq9.out
     have jqj:Hid (CB 30 p3 [.string ⟨#[104,101,97,100]⟩,.string ⟨#[]⟩,.slice none 0 0,.slice (some ⟨p7,0,none⟩) 2 2,.string ⟨#[98,111,100,121]⟩,.string ⟨#[]⟩,.slice none 0 0,.slice a3 n3 c3] y6):=by show CB _ _ _ _;rw [hf,hN];exact jqj.out
     have HY3:Hid (wH.heap.size<=p3):=by show _<=_;rw [hf];exact HY3.out
     rw [<- hN,<- hf];clear hN hf bA PR3;refine hK.out _ _ (fun _ _=>B6y) (fun hH2=>?_);clear hK KQ hH;refine aN ?_;clear hH2;intro hH;refine GQ ?_;intro KQ hK;go_at_call 17
     (with_reducible refine (mg ⟨#[104,116,109,108]⟩ a9 (some ⟨p3,0,none⟩) 1 2 c9 2 y6).mono ?_)
     rintro e y7 ⟨rfl,hb⟩;have B7y:jIx wH.heap.size wH y7:=B6y.trans (hb.mono B6y.size);have HN:=hid (show gP (W0.heap.size<=·) y7 [⟨eY,lang⟩] [(aH jK [] [(aH fI [⟨wu,dL⟩] []),(aH Fb [] (bK title))]),(aH lQ [] (fZ l))] (.slice a9 1 c9) (.slice (some ⟨p3,0,none⟩) 2 2) from ⟨Xu.out.aX hb,KD3.out.aX hb⟩);have BL:=hid (q01 BH.out B7y);have jB7:=hid (jq8.out.aX hb);have jB8:=hid (jq9.out.aX hb);have jB9:=hid (jqj.out.below hb);clear hb Xu KD3;refine hK.out _ _ (fun _ _=>B7y) (fun hH2=>?_);clear hK KQ hH;refine aN ?_;clear hH2;intro hH;refine eF (i:=8) rfl (by kernel_rfl) (fun KQ hK=>?_);obtain ⟨x0,x1,x2,x3,xf⟩:=pq (K1.out.below BL.out);go_simp;clear x0 x1 x2 x3 xf;refine hK.out _ _ (fun h=>absurd rfl h) (fun _=>?_);clear hK KQ hH;refine CF ?_;intro KQ hK;refine M6 ?_;clear hK KQ;refine OQ (by kernel_rfl) ?_ _;obtain ⟨w9,bZ⟩:∃ w9,w9=jV y7 (S+1) (.string ⟨#[104,116,109,108]⟩) (.string ⟨#[]⟩) (.slice a9 1 c9) (.slice (some ⟨p3,0,none⟩) 2 2):=⟨_,rfl⟩;have HX9:Hid (PgX w w9 title [⟨eY,lang⟩] (.slice a9 1 c9) (.slice (some ⟨p3,0,none⟩) 2 2)):=by
      have e1:=Z0.out;have e2:=BH.out.size;have e4:=HY3.out;have e5:=xq.out;refine ⟨p3,.slice (some ⟨p7,0,none⟩) 2 2,.slice a3 n3 c3,rfl,by omega,?_,?_,?_⟩
      ·rw [bZ];exact (gq _ _ _ _ _ _ p3 (by omega)).trans jB9.out
      ·rw [bZ];exact Rd.keep (fun b (hb:W0.heap.size<=b/\b<p3) _=>⟨⟨by omega,hb.2⟩,gq _ _ _ _ _ _ b (by omega)⟩) _ _ jB7.out
      ·rw [bZ];exact Rd.keep (fun b (hb:W0.heap.size<=b/\b<p3) _=>⟨⟨by omega,hb.2⟩,gq _ _ _ _ _ _ b (by omega)⟩) _ _ jB8.out
     have hf:=uP ⟨#[104,116,109,108]⟩ ⟨#[]⟩ [⟨eY,lang⟩] [(aH jK [] [(aH fI [⟨wu,dL⟩] []),(aH Fb [] (bK title))]),(aH lQ [] (fZ l))] xq.out Z0.out B0.out K1.out BL.out HN.out;rw [<- bZ] at hf;refine qK ?_;clear hf bZ;intro vT sN hw8;rw [<- hw8];clear hw8;go_wp2;have r0:=vT.out.cell 0 _ rfl;have r1:=vT.out.cell 1 _ rfl;have r2:=vT.out.cell 2 _ rfl;have r3:=vT.out.cell 3 _ rfl;exact bodyPost_ret (v:=.tuple #[.agg #[.string ⟨#[104,116,109,108]⟩,.string ⟨#[]⟩,.slice a9 1 c9,.slice (some ⟨p3,0,none⟩) 2 2],.int .i64 (0)]) (by simp [results,results6,go_sem,r0,r1,r2,r3]) rfl (by rw [HPF.out,H0.out];exact kI.of sN.out (by simp) (fun _ va vk e=>by
      simp only [Value.agg.injEq,Array.mk.injEq,List.cons.injEq,and_true] at e;obtain ⟨-,-,rfl,rfl⟩:=e;exact HX9.out))
    ·have q2:((EB:Int) != 0)=true:=by rw [bne_iff_ne];omega
     have Yj:=hid (show NJ me l title lang=wE by rw [HPN.out,if_neg (by rw [HEB.out];exact hB0)]);obtain ⟨x0,x1,x2,x3,xf⟩:=pq (K1.out.below B3.out);obtain ⟨w9,bZ⟩:∃ w9,w9=jV w3 (S+1) (.string ⟨#[]⟩) (.string ⟨#[]⟩) (.slice none 0 0) (.slice none 0 0):=⟨_,rfl⟩;have hf:=uP ⟨#[]⟩ ⟨#[]⟩ [] [] xq.out Z0.out B0.out K1.out B3.out ⟨Rd.aD _ _ _,Rd.aD _ _ _⟩;rw [<- bZ] at hf;refine qK ?_;clear hf bZ;intro vT sN hw8;go_wp2;refine lD ?_;intro r0 r1 r2 r3;exact bodyPost_ret (v:=.tuple #[.agg #[.string ⟨#[]⟩,.string ⟨#[]⟩,.slice none 0 0,.slice none 0 0],.int .i64 (EB)]) (by simp [results,results6,go_sem,r0,r1,r2,r3]) rfl (by rw [Yj.out,HEB.out];exact kI.of sN.out (by simp) (fun h=>absurd h hB0))
 ·have q1:((E0:Int) != 0)=true:=by rw [bne_iff_ne];omega
  have HE9:=hid (show EE=E0 by rw [BK.out,if_pos h0]);have Yj:=hid (show NJ me l title lang=wE by rw [HPN.out,if_neg (by rw [HE9.out];exact h0)]);refine jd8 ?_;intro x0 x1 x2 x3 xf w9 bZ hf;refine qK ?_;clear hf bZ;intro vT sN hw8;go_wp2;refine lD ?_;intro r0 r1 r2 r3;exact bodyPost_ret (v:=.tuple #[.agg #[.string ⟨#[]⟩,.string ⟨#[]⟩,.slice none 0 0,.slice none 0 0],.int .i64 (E0)]) (by simp [results,results6,go_sem,r0,r1,r2,r3]) rfl (by rw [Yj.out,HE9.out];exact kI.of sN.out (by simp) (fun h=>absurd h h0))
theorem Dz (me:List Pr) (l:List ah) (title lang:ByteArray) (vm vb:jIz) (w:jIq) (hm:Rd (·<w.heap.size) w (fJ me) [vm]) (hb:Rd (·<w.heap.size) w (lu l) [vb]) (hme:me.length<=1000) (fQ:∀ p∈me,p.key.size<=1000/\p.val.size<=1000) (hall:ah.bX l<=32768) (hsm:ah.aC l) (hsz:ah.aY l<=900000) (hil:(ah.aR l).length<=1000) (hbd:ah.uG l) (hti:title.size<=300) (hla:lang.size<=300) (ht:PT w) : Calls prog 6 #[.agg #[vm,vb],.string title,.string lang] w (uV w (KY me l title lang) (NJ me l title lang)):=
 (LH me l title lang vm vb w hm hb hme fQ hall hsm hsz hil hbd hti hla ht).mono fun e w' ⟨va,vk,h1,h2,h3,_⟩=>⟨va,vk,h1,h2,h3⟩
structure TbR (i:ByteArray) (ks:List ah):Prop where
 ne:ks≠[]
 len:ks.length<=900000
 row:∀ r∈ks,r.kids.length=i.size/\r.kids.length<=1000000/\∀ c∈r.kids,LnR c.kV
mutual
def ah.yX:ah->Prop
 | .mk k lv i t d ti a li ks=>M9 i t a li/\(k=2\/k=8->0<=lv/\lv<=999999999)/\(k=10->TbR i ks)/\(k=13->bq i=false)/\(1<=k/\k<=15/\k≠11/\k≠12)/\(k≠10->ah.kU ks)
def ah.kU:List ah->Prop
 | []=>True
 | x::l=>x.yX/\ah.kU l
end
theorem ah.yZ:∀ (l:List ah),ah.kU l->∀ x∈l,x.yX
 | [],_,x,hx=>by cases hx
 | y::l,h,x,hx=>by
  rw [ah.kU] at h;rcases List.mem_cons.1 hx with rfl | hx
  ·exact h.1
  ·exact ah.yZ l h.2 x hx
mutual
theorem ah.Vk (cl:ByteArray->Bool):∀ (b:ah) (par:Int) (dp:Nat),b.err cl par dp=0->b.KM->b.small->b.sz<=900000->b.yX
 | .mk k lv i t d ti a li ks,par,dp,he,hh,hs,hz=>by
  obtain ⟨h2,hbf,h3⟩:=gy cl he;rw [ah.KM] at hh;obtain ⟨g1,g2,g3,g4,g5,g6,g7,g8⟩:=hh;rw [ah.small] at hs;obtain ⟨s1,s2,s3,s4,s5,s6,s7,s8⟩:=hs;rw [ah.sz] at hz;have hl:=NZ li (zV cl h2 hbf);have hk:1<=k/\k<=15:=by exact jcz
  rw [ah.yX];refine ⟨⟨s1,s2,s5,g4,⟨by omega,s6,hl⟩⟩,g2,fun h10=>⟨(g3 h10).1,by have:=ah.fK ks;omega,fun r hr=>?_⟩,g5,⟨hk.1,hk.2,g6,g7⟩,fun h10=>ah.pX cl ks k (dp+1) h3 (g8 h10) s8 (by omega)⟩;have hr2:=jJ (lM ks s8 r hr);have hr3:=jcx ks r hr;have hr4:=Ia r;have r1:=(oD cl k (dp+1) ks).1 h3 r hr;refine ⟨((g3 h10).2 r hr).1,by omega,fun c hc=>?_⟩;have hc2:=jJ (lM r.kids hr2.1 c hc);obtain ⟨k',lv',i',t',d',ti',a',li',ks'⟩:=r;obtain ⟨-,-,q3⟩:=gy cl r1;have c1:=(oD cl k' (dp+1+1) ks').1 q3 c hc;obtain ⟨k9,lv9,i9,t9,d9,ti9,a9,li9,ks9⟩:=c;obtain ⟨u1,u2,-⟩:=gy cl c1;exact ⟨jFq hc2.2.2 (by decide),hc2.2.1,NZ li9 (zV cl u1 u2)⟩
theorem ah.pX (cl:ByteArray->Bool):∀ (l:List ah) (par:Int) (dp:Nat),ah.aT cl par dp l=0->ah.qM l->ah.aC l->ah.aY l<=900000->ah.kU l
 | [],_,_,_,_,_,_=>by rw [ah.kU];trivial
 | x::l,par,dp,he,hh,hs,hz=>by
  rw [ah.aT] at he;rw [ah.qM] at hh;rw [ah.aC] at hs;rw [ah.aY] at hz;rw [ah.kU];by_cases h1:x.err cl par dp≠0
  ·rw [if_pos h1] at he;exact absurd he h1
  ·rw [if_neg h1] at he;exact ⟨ah.Vk cl x par dp (Classical.not_not.1 h1) hh.1 hs.1 (by omega),ah.pX cl l par dp he hh.2 hs.2 (by omega)⟩
end
theorem O7 (l:List ah) (h:xK l=0) (hsm:ah.aC l) (hz:ah.aY l<=900000):ah.kU l/\∀ x∈ah.aV l,x.kOf=14->ah.kU x.kids/\ah.aY x.kids<=900000:=by obtain ⟨h1,h2⟩:=Ak h;have h3:=N8 h;refine ⟨ah.pX gG l 0 0 h1 h3 hsm hz,fun x hx hk=>?_⟩;refine jfz ?_;intro d' g1 g2 g3 g4 g5;exact ⟨ah.pX gG _ 14 d' g1 g5 g4 (by omega),by omega⟩
end Go.Proofs.YtklhajbpfelliaaGreatDoor

