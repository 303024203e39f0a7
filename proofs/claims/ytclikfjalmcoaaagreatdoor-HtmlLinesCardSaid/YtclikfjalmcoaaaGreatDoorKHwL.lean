/- Contracts of html.Line and publisherref34.Line. Plain part: the errors and the nodes of Blocks and Page; the small case of layer 34. What the statements of layer 34 share: text, same, has; Small at a document with one block that has a line only. Plain part: the notes of a well-formed document: what the walks ask of their blocks. The contract of Small at a document with one block that has a line only (for layer 34). -/
import Derived.Test.YtclikfjalmcoaaaGreatDoorKHtU
import Derived.Test.YtclikfjalmcoaaaGreatDoorKRpF
import Derived.Test.YtclikfjalmcoaaaGreatDoorKHtM
set_option maxHeartbeats 4000000
set_option maxRecDepth 100000
open Go.Lib (hid)
namespace Go.Proofs.YtclikfjalmcoaaaGreatDoor
open Nat renaming le_refl->jh2
open Go.RowKit
set_option linter.unusedVariables false
set_option linter.unusedSimpArgs false
def Mx (l:List aj):Nat:=if qh l≠0 then qh l else if jc l=true then 5 else 0
def Q9 (l:List aj):List Nd:=if Mx l=0 then dD l else []
def bG (w:World) (E:Nat) (L:List Nd) (e:Ending) (w':World):Prop:=
 ∃ rows v,e=.returned (.tuple #[v,.int .i64 (E:Int)])/\aI 43 4 (fun _=>False) w'.heap.size w (L.map Nd.d) rows v w'
theorem bG.nil {w w':World} {E:Nat} {L:List Nd} (hL:L=[]) (h:Below w.heap.size w w'):bG w E L (.returned (.tuple #[.slice none 0 0,.int .i64 (E:Int)])) w':=by subst hL;exact ⟨[],_,rfl,((aI.nil _ _ _ w).below h).top⟩
def TT (l:List aj):au:=.mk 1 0 ⟨#[]⟩ ⟨#[]⟩ ⟨#[]⟩ ⟨#[]⟩ ⟨⟨#[]⟩,[],[]⟩ l []
theorem E8 (l:List aj):au.bD [TT l]=aj.aU l:=by rw [au.bD,au.bD,List.append_nil,TT,au.inls,au.bD,List.append_nil]
mutual
theorem aj.Wd:∀ (x:aj),x.src->x.cf
 | .mk k t d ti a ar ci ks,h=>by
  rw [aj.src] at h;rw [aj.cf];refine ⟨?_,aj.CU ks h.2⟩;have h1:=h.1;unfold oI at h1;split at h1
  ·cases h1
  ·rename_i h0
   have hf:vW k t d ti a ar ci ks=true:=by simpa using h0
   unfold vW at hf;simp only [Bool.and_eq_true] at hf;have ha:=hf.1.1.1.2;by_cases hk:k=10\/k=11
   ·rcases hk with rfl | rfl
    ·rw [if_neg (by decide),if_neg (by decide),if_neg (by decide),if_neg (by decide),if_pos (.inr rfl)] at h1;unfold q1z at h1;split at h1
     ·cases h1
     ·split at h1
      ·cases h1
      ·split at h1
       ·cases h1
       ·split at h1
        ·cases h1
        ·exact rH a (by simpa using h1)
    ·rw [if_neg (by decide),if_neg (by decide),if_neg (by decide),if_neg (by decide),if_neg (by decide),if_pos rfl] at h1;split at h1
     ·cases h1
     ·exact rH a h1
   ·refine E9 a ?_;rw [Bool.or_eq_true] at ha;rcases ha with ha | ha
    ·exfalso;simp at ha;omega
    ·exact ha
theorem aj.CU:∀ (l:List aj),aj.CY l->aj.QY l
 | [],_=>by rw [aj.QY];trivial
 | x::l,h=>by
  rw [aj.CY] at h;rw [aj.QY];exact ⟨aj.Wd x h.1,aj.CU l h.2⟩
end
theorem Rc (l:List aj) (h:qh l=0):aj.QY l:=aj.CU l (aj.rJ l 0 true 0 h)
theorem CO (l:List aj) (v:Value) (w:World) (hrd:Rd (·<w.heap.size) w (bC l) [v]) (hsm:aj.aC l) (hsz:aj.aZ l<=900000) : Calls Tryz.prog 17 #[v] w (bG w (Mx l) (Q9 l)):=by
 obtain ⟨a,cap,hv,-⟩:=Rd.aB hrd;obtain rfl:v=.slice a l.length cap:=by simpa using hv
 clear hv;have LC:=hid (BU l a cap w hsm hrd);have TJ:=hid hrd;have eG:=hid hsm;have hee:Mx l=if qh l≠0 then qh l else if jc l=true then 5 else 0:=rfl
 have hnn:Q9 l=if Mx l=0 then dD l else []:=rfl
 obtain ⟨E0,hE0⟩:∃ E0,E0=qh l:=⟨_,rfl⟩;obtain ⟨EE,Gh⟩:∃ EE,EE=Mx l:=⟨_,rfl⟩;obtain ⟨NN,Gi⟩:∃ NN,NN=Q9 l:=⟨_,rfl⟩;rw [<- hE0] at LC hee;rw [<- Gh] at hee hnn;rw [<- Gi] at hnn;rw [<- Gh,<- Gi];have DK:=hid hee;have KZ:=hid hnn;have HE0:=hid hE0;clear hrd hsm hee hnn hE0 Gh Gi;go_enter Tryz.func17,Tryz.ntmps17;go_wp2_with fail
 (with_reducible refine LC.out.mono ?_)
 rintro e w1 ⟨rfl,b1⟩;have B1:=hid b1;have hz1:=b1.size;clear b1 LC;by_cases h0:E0=0
 ·have q1:((E0:Int) != 0)=false:=by rw [h0];rfl
  have N7:Hid (qh l=0):=by show _=_;rw [<- HE0.out,h0]
  have xG:Hid (EE=if jc l=true then 5 else 0):=by show _=_;rw [DK.out,if_neg (by simp [h0])]
  obtain ⟨wL,Tw⟩:∃ wL,wL=w1.alloc (.cells #[.int .i64 1,.int .i64 0,.string ⟨#[]⟩,.string ⟨#[]⟩,.string ⟨#[]⟩,.string ⟨#[]⟩,.string ⟨#[]⟩,.slice none 0 0,.slice none 0 0,.slice a l.length cap,.slice none 0 0] 30):=⟨_,rfl⟩;have bL:Below w1.heap.size w1 wL:=by rw [Tw];exact (Below.refl _ _).alloc (jh2 _) _
  have rL:Rd (·<wL.heap.size) wL (dS [TT l]) [.slice (some ⟨w1.heap.size,0,none⟩) 1 1]:=by
   rw [Tw];have h:=aI.one (T:=30) (k:=11) (w:=w1) (d:=(TT []).d) (r:=[.int .i64 1,.int .i64 0,.string ⟨#[]⟩,.string ⟨#[]⟩,.string ⟨#[]⟩,.string ⟨#[]⟩,.string ⟨#[]⟩,.slice none 0 0,.slice none 0 0,.slice none 0 0,.slice none 0 0]) rfl (au.fJ 1 0 ⟨#[]⟩ ⟨#[]⟩ ⟨#[]⟩ ⟨#[]⟩ (a:=⟨⟨#[]⟩,[],[]⟩) ⟨⟨Rd.ay _ _ _,Rd.ay _ _ _⟩,Rd.ay _ _ _,Rd.ay _ _ _⟩);have hb:Rd (·<(w1.alloc (.cells #[.int .i64 1,.int .i64 0,.string ⟨#[]⟩,.string ⟨#[]⟩,.string ⟨#[]⟩,.string ⟨#[]⟩,.string ⟨#[]⟩,.slice none 0 0,.slice none 0 0,.slice a l.length cap,.slice none 0 0] 30)).heap.size) (w1.alloc (.cells #[.int .i64 1,.int .i64 0,.string ⟨#[]⟩,.string ⟨#[]⟩,.string ⟨#[]⟩,.string ⟨#[]⟩,.string ⟨#[]⟩,.slice none 0 0,.slice none 0 0,.slice a l.length cap,.slice none 0 0] 30)) (TT l).d [.int .i64 1,.int .i64 0,.string ⟨#[]⟩,.string ⟨#[]⟩,.string ⟨#[]⟩,.string ⟨#[]⟩,.string ⟨#[]⟩,.slice none 0 0,.slice none 0 0,.slice a l.length cap,.slice none 0 0]:=
    au.fJ 1 0 ⟨#[]⟩ ⟨#[]⟩ ⟨#[]⟩ ⟨#[]⟩ (a:=⟨⟨#[]⟩,[],[]⟩) ⟨⟨Rd.ay _ _ _,Rd.ay _ _ _⟩,(TJ.out.up B1.out).up ((Below.refl _ _).alloc (jh2 _) _),Rd.ay _ _ _⟩
   refine Rd.ig (rows:=[_]) (B:=w1.heap.size) (e:=30) ⟨rfl,.inr ⟨w1.heap.size,1,_,rfl,jh2 _,heap_alloc_new w1 _,by simp,by unfold maxLen;simp,rfl,rfl⟩⟩ (aP.one hb) (by simp) (fun g hg=>?_);have e1:w1.heap.size=g:=by simpa [Value.ownBlock] using hg
   rw [World.size_alloc];omega
  have IC:=uz [TT l] (.slice (some ⟨w1.heap.size,0,none⟩) 1 1) wL rL (by rw [au.sP,au.sP,TT,au.bd,au.sP];exact ⟨⟨by simp,by simp,aj.mg l eG.out,by omega,trivial⟩,trivial⟩)
   (by rw [au.aZ,au.aZ,TT,au.sz,au.aZ];omega) (by rw [E8,aj.jC];omega)
  rw [E8] at IC;have IL:=hid IC;have BL:=hid (aM B1.out bL);clear IC rL bL h0;go_upto_region 4 with (fail)
  have jc3:=hid Tw;clear Tw;go_wp2_with fail
  rw [<- jc3.out]
  (with_reducible refine IL.out.mono ?_)
  rintro e w2 ⟨v2,bq,rfl,hown2,JY,rF,b2⟩;have EY:Rd (fun _=>True) w2 (bC (aj.aU l)) [v2]:=Rd.ig (by rw [List.length_map];exact hown2) JY rF (fun _ _=>trivial);have UC:=xA (aj.aU l) _ v2 w2 EY;have hue:(aj.aU l).any fA=jc l:=rfl;rw [hue] at UC;have UL:=hid UC;have B2:=hid (aM BL.out b2);clear hown2 JY rF b2 EY UC IL hue;go_wp2_with fail
  (with_reducible refine UL.out.mono ?_)
  rintro e w3 ⟨rfl,b3⟩;have B3:=hid (aM B2.out b3);obtain ⟨u,hu⟩:∃ u,u=jc l:=⟨_,rfl⟩;rw [<- hu] at xG;rw [<- hu];have HU:=hid hu;clear b3 UL hu;cases u with
  | true=>
   have HF:Hid (bG w EE NN (.returned (.tuple #[.slice none 0 0,.int .i64 5])) w3):=by
    have h5:EE=5:=by rw [xG.out];rfl
    rw [h5];exact bG.nil (by rw [KZ.out,h5];rfl) B3.out
   go_wp2
   go_ret2
   exact HF.out
  | false=>
   have HC:=hid (jw 900000 l (.slice a l.length cap) w3 hsz (by omega) (TJ.out.up B3.out) eG.out (CZ l N7.out HU.out.symm));go_wp2_with fail
   (with_reducible refine HC.out.mono ?_)
   rintro e w4 ⟨bK,v4,rfl,hrow4⟩;have HF:Hid (bG w EE NN (.returned (.tuple #[v4,.int .i64 0])) w4):=by
    have h5:EE=0:=by rw [xG.out];rfl
    have hN:NN=dD l:=by rw [KZ.out,h5];rfl
    rw [h5,hN];exact ⟨bK,v4,rfl,hrow4.nO B3.out.size (aM B3.out hrow4.aL)⟩
   clear hrow4 HC;go_wp2
   go_ret2
   exact HF.out
 ·have q1:((E0:Int) != 0)=true:=by rw [bne_iff_ne];omega
  have HF:Hid (bG w EE NN (.returned (.tuple #[.slice none 0 0,.int .i64 (E0:Int)])) w1):=by
   have h5:EE=E0:=by rw [DK.out,if_pos (by simpa using h0)]
   rw [h5];exact bG.nil (by rw [KZ.out,h5,if_neg h0]) B1.out
  clear h0;go_wp2
  go_ret2
  exact HF.out
theorem Rb (l:List aj) (v:Value) (w:World) (hrd:Rd (·<w.heap.size) w (bC l) [v]) (hsm:aj.aC l) (hsz:aj.aZ l<=900000) : Calls Tryz.prog 18 #[v] w (bG w (Mx l) (Q9 l)):=by
 obtain ⟨a,cap,hv,-⟩:=Rd.aB hrd;obtain rfl:v=.slice a l.length cap:=by simpa using hv
 clear hv;have LC:=hid (C8 l a cap w hsm hrd);have TJ:=hid hrd;have eG:=hid hsm;have hee:Mx l=if qh l≠0 then qh l else if jc l=true then 5 else 0:=rfl
 have hnn:Q9 l=if Mx l=0 then dD l else []:=rfl
 obtain ⟨E0,hE0⟩:∃ E0,E0=qh l:=⟨_,rfl⟩;obtain ⟨EE,Gh⟩:∃ EE,EE=Mx l:=⟨_,rfl⟩;obtain ⟨NN,Gi⟩:∃ NN,NN=Q9 l:=⟨_,rfl⟩;rw [<- hE0] at LC hee;rw [<- Gh] at hee hnn;rw [<- Gi] at hnn;rw [<- Gh,<- Gi];have DK:=hid hee;have KZ:=hid hnn;have HE0:=hid hE0;clear hrd hsm hee hnn hE0 Gh Gi;go_enter Tryz.func18,Tryz.ntmps18;go_wp2_with fail
 (with_reducible refine LC.out.mono ?_)
 rintro e w1 ⟨rfl,b1⟩;have B1:=hid b1;clear b1 LC;by_cases h0:E0=0
 ·have q1:((E0:Int) != 0)=false:=by rw [h0];rfl
  have N7:Hid (qh l=0):=by show _=_;rw [<- HE0.out,h0]
  have xG:Hid (EE=if jc l=true then 5 else 0):=by show _=_;rw [DK.out,if_neg (by simp [h0])]
  have UL:=hid (Ht l (.slice a l.length cap) w1 (TJ.out.up B1.out) (by omega));clear h0;go_wp2_with fail
  (with_reducible refine UL.out.mono ?_)
  rintro e w3 ⟨rfl,b3⟩;have B3:=hid (aM B1.out b3);obtain ⟨u,hu⟩:∃ u,u=jc l:=⟨_,rfl⟩;rw [<- hu] at xG;rw [<- hu];have HU:=hid hu;clear b3 UL hu;cases u with
  | true=>
   have HF:Hid (bG w EE NN (.returned (.tuple #[.slice none 0 0,.int .i64 5])) w3):=by
    have h5:EE=5:=by rw [xG.out];rfl
    rw [h5];exact bG.nil (by rw [KZ.out,h5];rfl) B3.out
   go_wp2
   go_ret2
   exact HF.out
  | false=>
   have HC:=hid (Hr 900000 l (.slice a l.length cap) w3 hsz (by omega) (TJ.out.up B3.out) eG.out (Rc l N7.out));go_wp2_with fail
   (with_reducible refine HC.out.mono ?_)
   rintro e w4 ⟨bK,v4,rfl,hrow4⟩;have HF:Hid (bG w EE NN (.returned (.tuple #[v4,.int .i64 0])) w4):=by
    have h5:EE=0:=by rw [xG.out];rfl
    have hN:NN=dD l:=by rw [KZ.out,h5];rfl
    rw [h5,hN];exact ⟨bK,v4,rfl,hrow4.nO B3.out.size (aM B3.out hrow4.aL)⟩
   clear hrow4 HC;go_wp2
   go_ret2
   exact HF.out
 ·have q1:((E0:Int) != 0)=true:=by rw [bne_iff_ne];omega
  have HF:Hid (bG w EE NN (.returned (.tuple #[.slice none 0 0,.int .i64 (E0:Int)])) w1):=by
   have h5:EE=E0:=by rw [DK.out,if_pos (by simpa using h0)]
   rw [h5];exact bG.nil (by rw [KZ.out,h5,if_neg h0]) B1.out
  clear h0;go_wp2
  go_ret2
  exact HF.out
def Gg (l:List au):Nat:=if au.aS tq 0 0 l≠0 then au.aS tq 0 0 l else if (au.bD l).any fA=true then 5 else 0
def TI (l:List au):List Nd:=if Gg l=0 then lD l else []
def YT (me:List Pr) (l:List au) (title lang:ByteArray):Nat:=
 if jF tq me l≠0 then jF tq me l else if eB title=false then 17 else if fP lang=false then 6 else if (au.bD l).any fA=true then 5 else 0
def AJ:Nd:=.mk ⟨#[]⟩ ⟨#[]⟩ [] []
def TQ (me:List Pr) (l:List au) (title lang:ByteArray):Nd:=if YT me l title lang=0 then H8 title lang (lD l) else AJ
theorem V3 {me:List Pr} {l:List au} (h:jF tq me l=0):au.aS tq 0 0 l=0:=by
 unfold jF at h;split at h
 ·cases h
 ·split at h
  ·rename_i h1;exact absurd h h1
  ·exact h
theorem Fa {l:List au} (h:Gg l=0):au.aS tq 0 0 l=0/\(au.bD l).any fA=false:=by
 unfold Gg at h;split at h
 ·rename_i h1;exact absurd h h1
 ·rename_i h1
  split at h
  ·cases h
  ·rename_i h2
   exact ⟨Classical.not_not.1 h1,by simpa using h2⟩
theorem La (s:ByteArray):(((At.err ⟨⟨#[]⟩,[],[⟨⟨#[116,105,116,108,101]⟩,s⟩]⟩:Nat):Int)==0)=eB s:=by
 have h1:fP (⟨#[116,105,116,108,101]⟩:ByteArray)=true:=by decide +kernel
 have h2:mO [] [⟨⟨#[116,105,116,108,101]⟩,s⟩]=if eB s=false then 17 else 0:=by
  rw [mO,h1];have h0:fF [] (⟨#[116,105,116,108,101]⟩:ByteArray)=false:=rfl;rw [if_neg (by decide),h0];split
  ·rfl
  ·rfl
 cases hs:eB s with
 | true=>
  rw [hs] at h2;have h3:At.err ⟨⟨#[]⟩,[],[⟨⟨#[116,105,116,108,101]⟩,s⟩]⟩=0:=by unfold At.err;rw [h2];rfl
  rw [h3];rfl
 | false=>
  rw [hs] at h2;have h3:At.err ⟨⟨#[]⟩,[],[⟨⟨#[116,105,116,108,101]⟩,s⟩]⟩=17:=by unfold At.err;rw [h2];rfl
  rw [h3];rfl
theorem Rf {l:List au} (h:Gg l=0):au.uq l:=by obtain ⟨h1,h2⟩:=Fa h;exact au.oQ tq l 0 0 (by decide) (by decide) h1 (by rw [au.oV];exact h2)
def Gj:At:=⟨⟨#[]⟩,[],[]⟩
def Y2 (t:ByteArray):aj:=.mk 1 t ⟨#[]⟩ ⟨#[]⟩ Gj [] [] []
def J8:aj:=.mk 2 ⟨#[]⟩ ⟨#[]⟩ ⟨#[]⟩ Gj [] [] []
def CJ:aj:=.mk 14 ⟨#[97]⟩ ⟨#[]⟩ ⟨#[]⟩ Gj [] [] []
def eL:List aj:=[Y2 ⟨#[97]⟩,J8,Y2 ⟨#[98]⟩]
def EZ:au:=.mk 5 0 ⟨#[]⟩ ⟨#[]⟩ ⟨#[]⟩ ⟨#[]⟩ Gj [] []
def J6:au:=.mk 14 0 ⟨#[120]⟩ ⟨#[]⟩ ⟨#[]⟩ ⟨#[]⟩ Gj [] []
def xK:au:=.mk 6 0 ⟨#[]⟩ ⟨#[]⟩ ⟨#[]⟩ ⟨#[]⟩ Gj [] [J6]
theorem jbj:Mx eL=0:=by decide +kernel
theorem jbk:Q9 eL=[zF ⟨#[97,32,98]⟩]:=by rfl
theorem jbq:Gg [EZ]=0:=by decide +kernel
theorem jbx:TI [EZ]=[aN Yy [] []]:=by rfl
theorem jbz:Gg [xK]=0:=by decide +kernel
theorem jc0:TI [xK]=[aN xq [] [],aN jL [⟨dh,kI⟩] [aN kZ [⟨jQ,⟨#[110,111,116,101,45,120]⟩⟩,⟨dh,dU⟩] []]]:=by rfl
theorem jc1:YT [] [] ⟨#[84]⟩ ⟨#[101,110]⟩=0:=by decide +kernel
theorem jc2:TQ [] [] ⟨#[84]⟩ ⟨#[101,110]⟩=aN TU [⟨qx,⟨#[101,110]⟩⟩] [aN uD [] [aN pU [⟨Lb,lF⟩] [],aN l9 [] [zF ⟨#[84]⟩]],aN xJ [] []]:=by rfl
theorem e_r:Mx [CJ]=5:=by decide +kernel
open Go.RowKit
def eC (t:ByteArray):List Value:=[.int .i64 1,.string t,.string ⟨#[]⟩,.string ⟨#[]⟩,.string ⟨#[]⟩,.slice none 0 0,.slice none 0 0,.slice none 0 0,.slice none 0 0,.slice none 0 0]
theorem V5 (t:ByteArray) (w:World) : Calls Tryz.prog 46 #[.string t] w fun e w'=>e=.returned (.agg (eC t).toArray)/\Below w.heap.size w w':=by
 obtain ⟨w0,hw0⟩:∃ w0,w0=w.alloc (.cells #[.int .i64 0,.string ⟨#[]⟩,.string ⟨#[]⟩,.string ⟨#[]⟩,.string ⟨#[]⟩,.slice none 0 0,.slice none 0 0,.slice none 0 0,.slice none 0 0,.slice none 0 0] 51):=⟨_,rfl⟩;have b0:Below w.heap.size w w0:=by rw [hw0];exact (Below.refl _ _).alloc (jh2 _) _
 have P0:PB w.heap.size [.int .i64 0,.string ⟨#[]⟩,.string ⟨#[]⟩,.string ⟨#[]⟩,.string ⟨#[]⟩,.slice none 0 0,.slice none 0 0,.slice none 0 0,.slice none 0 0,.slice none 0 0] w0:=by rw [hw0];exact heap_alloc_new w _
 have r0:=P0.cell 0 _ rfl;have r1:=P0.cell 1 _ rfl;have r2:=P0.cell 2 _ rfl;have r3:=P0.cell 3 _ rfl;have r4:=P0.cell 4 _ rfl;have r5:=P0.cell 5 _ rfl;have r6:=P0.cell 6 _ rfl;have r7:=P0.cell 7 _ rfl;have r8:=P0.cell 8 _ rfl;have r9:=P0.cell 9 _ rfl;have g0:=P0.free 0;have g1:=P0.free 1;have g2:=P0.free 2;have g3:=P0.free 3;have g4:=P0.free 4;have g5:=P0.free 5;have g6:=P0.free 6;have g7:=P0.free 7;have g8:=P0.free 8;have g9:=P0.free 9;have FB:=hid (fun u0 u1 u2 u3 u4 u5 u6 u7 u8 u9=>(((((((((b0.setCell (p:=⟨w.heap.size,0,none⟩) (jh2 _) u0).setCell (p:=⟨w.heap.size,1,none⟩) (jh2 _) u1).setCell (p:=⟨w.heap.size,2,none⟩) (jh2 _) u2).setCell (p:=⟨w.heap.size,3,none⟩) (jh2 _) u3).setCell (p:=⟨w.heap.size,4,none⟩) (jh2 _) u4).setCell (p:=⟨w.heap.size,5,none⟩) (jh2 _) u5).setCell (p:=⟨w.heap.size,6,none⟩) (jh2 _) u6).setCell (p:=⟨w.heap.size,7,none⟩) (jh2 _) u7).setCell (p:=⟨w.heap.size,8,none⟩) (jh2 _) u8).setCell (p:=⟨w.heap.size,9,none⟩) (jh2 _) u9);clear P0 b0;go_enter Tryz.func46,Tryz.ntmps46;go_upto_region 1 with (fail)
 rw [<- hw0];clear hw0;go_wp2;exact bodyPost_ret (v:=.agg (eC t).toArray) (by simp [eC,results,Tryz.results46,go_sem,r0,r1,r2,r3,r4,r5,r6,r7,r8,r9]) rfl ⟨rfl,FB.out _ _ _ _ _ _ _ _ _ _⟩
theorem Rd.J4 {ok:Nat->Prop} {w:World} {k:Nat} {l:List D} {rows:List (List Value)} {b cap:Nat} (hl:l.length<=cap) (hm:cap<=maxLen) (h:aP ok w l rows) (hk:∀ r∈rows,r.length=k) (hok:ok b) (hb:b<w.heap.size) (hc:∀ j u,rows.flatten[j]?=some u->w.cell? ⟨b,j,none⟩=some u):Rd ok w (.sl k l) [.slice (some ⟨b,0,none⟩) l.length cap]:=by unfold Rd;exact ⟨_,cap,rows,rfl,hl,hm,h,hk,.inr ⟨b,0,rfl,hok,hb,fun j u hu=>by rw [Nat.zero_add];exact hc j u hu⟩⟩
theorem xL (ok:Nat->Prop) (w:World):AtR ok w Gj (.slice none 0 0) (.slice none 0 0):=⟨Rd.ay _ _ _,Rd.ay _ _ _⟩
theorem N8 (ok:Nat->Prop) (w:World) (t:ByteArray):Rd ok w (Y2 t).d (eC t):=aj.fJ 1 t ⟨#[]⟩ ⟨#[]⟩ ⟨xL _ _,Rd.ay _ _ _,Rd.ay _ _ _,Rd.ay _ _ _⟩
theorem V9 (ks:List Nd) (va vb:Value) (w:World) (hA:Rd (·<w.heap.size) w (bS ks) [va]) (hB:Rd (·<w.heap.size) w (bS ks) [vb]) : Calls Tryz.prog 19 #[va,vb] w (QC w):=by
 obtain ⟨aa,na,ca,rfl⟩:=Rd.ah hA;obtain ⟨ab,nb,cb,rfl⟩:=Rd.ah hB;have SC:Hid (Calls Tryz.prog 24 #[.agg #[.string ⟨#[112]⟩,.string ⟨#[]⟩,.slice none 0 0,.slice aa na ca],.agg #[.string ⟨#[112]⟩,.string ⟨#[]⟩,.slice none 0 0,.slice ab nb cb]] w (QC w)):=G8 _ (aN nP [] ks) (.slice none 0 0) (.slice aa na ca) (.slice none 0 0) (.slice ab nb cb) w (jh2 _) ⟨Rd.ay _ _ _,hA⟩ ⟨Rd.ay _ _ _,hB⟩;clear hA hB;go_enter Tryz.func19,Tryz.ntmps19;go_wp2_with fail
 (with_reducible refine SC.out.mono ?_)
 rintro e w1 ⟨rfl,b1⟩;go_wp2;go_ret;exact ⟨rfl,b1⟩
theorem Q8 (ok:Nat->Prop) (w:World):Rd ok w J8.d [.int .i64 2,.string ⟨#[]⟩,.string ⟨#[]⟩,.string ⟨#[]⟩,.string ⟨#[]⟩,.slice none 0 0,.slice none 0 0,.slice none 0 0,.slice none 0 0,.slice none 0 0]:=aj.fJ 2 ⟨#[]⟩ ⟨#[]⟩ ⟨#[]⟩ ⟨xL _ _,Rd.ay _ _ _,Rd.ay _ _ _,Rd.ay _ _ _⟩
theorem V8 (ok:Nat->Prop) (w:World):Rd ok w CJ.d [.int .i64 14,.string ⟨#[97]⟩,.string ⟨#[]⟩,.string ⟨#[]⟩,.string ⟨#[]⟩,.slice none 0 0,.slice none 0 0,.slice none 0 0,.slice none 0 0,.slice none 0 0]:=aj.fJ 14 ⟨#[97]⟩ ⟨#[]⟩ ⟨#[]⟩ ⟨xL _ _,Rd.ay _ _ _,Rd.ay _ _ _,Rd.ay _ _ _⟩
theorem lG:Gj.short:=⟨by decide,by decide,by decide,fun _ h=>(by cases h),fun _ h=>(by cases h)⟩
theorem AL (t:ByteArray) (h:t.size<=300):(Y2 t).small:=by unfold Y2 aj.small aj.aC;exact ⟨h,by decide,by decide,lG,by decide,by decide,fun _ h=>(by cases h),fun _ h=>(by cases h),trivial⟩
theorem Fb:J8.small:=by unfold J8 aj.small aj.aC;exact ⟨by decide,by decide,by decide,lG,by decide,by decide,fun _ h=>(by cases h),fun _ h=>(by cases h),trivial⟩
theorem Ia:CJ.small:=by unfold CJ aj.small aj.aC;exact ⟨by decide,by decide,by decide,lG,by decide,by decide,fun _ h=>(by cases h),fun _ h=>(by cases h),trivial⟩
theorem N9:aj.aC eL:=by unfold eL aj.aC aj.aC aj.aC aj.aC;exact ⟨AL _ (by decide),Fb,AL _ (by decide),trivial⟩
theorem Oa:aj.aC [CJ]:=by unfold aj.aC aj.aC;exact ⟨Ia,trivial⟩
theorem uE:au.aC [EZ]:=by
 have h1:=lG;have h3:aj.aZ []<=120:=by decide +kernel
 have h4:(⟨#[]⟩:ByteArray).size<=300:=by decide
 simp [EZ,au.aC,au.small,h1,h3,h4,aj.aC]
theorem rG:au.aC [xK]:=by
 have h1:=lG;have h3:aj.aZ []<=120:=by decide +kernel
 have h4:(⟨#[]⟩:ByteArray).size<=300:=by decide
 have h5:(⟨#[120]⟩:ByteArray).size<=300:=by decide
 simp [xK,J6,au.aC,au.small,h1,h3,h4,h5,aj.aC]
def TV (k:Int) (i:ByteArray) (vk:Value):List Value:=[.int .i64 k,.int .i64 0,.string i,.string ⟨#[]⟩,.string ⟨#[]⟩,.string ⟨#[]⟩,.string ⟨#[]⟩,.slice none 0 0,.slice none 0 0,.slice none 0 0,vk]
theorem Wh {ok:Nat->Prop} {w:World} (k:Int) (i:ByteArray) (ks:List au) (vk:Value) (h:Rd ok w (dS ks) [vk]):Rd ok w (au.mk k 0 i ⟨#[]⟩ ⟨#[]⟩ ⟨#[]⟩ Gj [] ks).d (TV k i vk):=au.fJ k 0 i ⟨#[]⟩ ⟨#[]⟩ ⟨#[]⟩ ⟨xL _ _,Rd.ay _ _ _,h⟩
theorem H9 (k:Int) (i:ByteArray) (ks:List au) (vk:Value) (w:World) (h:Rd (·<w.heap.size) w (dS ks) [vk]) : Rd (·<(w.alloc (.cells (TV k i vk).toArray 30)).heap.size) (w.alloc (.cells (TV k i vk).toArray 30)) (dS [.mk k 0 i ⟨#[]⟩ ⟨#[]⟩ ⟨#[]⟩ Gj [] ks]) [.slice (some ⟨w.heap.size,0,none⟩) 1 1]:=by have hb:Below w.heap.size w (w.alloc (.cells (TV k i vk).toArray 30)):=(Below.refl _ _).alloc (jh2 _) _;have kk:CB 30 w.heap.size (TV k i vk) (w.alloc (.cells (TV k i vk).toArray 30)):=CB.new _ _ w;exact Rd.J4 (l:=[au.mk k 0 i ⟨#[]⟩ ⟨#[]⟩ ⟨#[]⟩ Gj [] ks].map au.d) (rows:=[TV k i vk]) (by simp) (by unfold maxLen;decide) (aP.one (Wh k i ks vk (h.up hb))) (by simp [TV]) kk.lt kk.lt (fun j u hu=>kk.cell j u (by simpa using hu))
mutual
theorem au.Rh (cl:ByteArray->Bool):∀ (b:au) (par:Int) (dp:Nat),b.err cl par dp=0->b.bC.any fA=false->∀ x∈b.each,(∃ d',au.aS cl x.Xf d' x.kids=0)/\(au.dP x.kids).any fA=false/\au.aZ x.kids<=b.sz
 | .mk k lv i t d ti a li ks,par,dp,h,hu,x,hx=>by
  obtain ⟨h2,hbf,h3⟩:=lq cl h;rw [au.bC,List.any_append,Bool.or_eq_false_iff] at hu;rw [au.each] at hx;rw [au.sz];rcases List.mem_cons.1 hx with rfl | hx
  ·exact ⟨⟨dp+1,h3⟩,hu.2,by show au.aZ ks<=_;omega⟩
  ·obtain ⟨g1,g2,g3⟩:=au.xM cl ks k (dp+1) h3 hu.2 x hx;exact ⟨g1,g2,by omega⟩
theorem au.xM (cl:ByteArray->Bool):∀ (l:List au) (par:Int) (dp:Nat),au.aS cl par dp l=0->(au.dP l).any fA=false->∀ x∈au.aY l,(∃ d',au.aS cl x.Xf d' x.kids=0)/\(au.dP x.kids).any fA=false/\au.aZ x.kids<=au.aZ l
 | [],_,_,_,_,x,hx=>by rw [au.aY] at hx;cases hx
 | y::l,par,dp,h,hu,x,hx=>by
  rw [au.aS] at h;rw [au.dP,List.any_append,Bool.or_eq_false_iff] at hu;rw [au.aY] at hx;rw [au.aZ];by_cases h1:y.err cl par dp≠0
  ·rw [if_pos h1] at h;exact absurd h h1
  ·rw [if_neg h1] at h;rcases List.mem_append.1 hx with hx | hx
   ·obtain ⟨g1,g2,g3⟩:=au.Rh cl y par dp (Classical.not_not.1 h1) hu.1 x hx;exact ⟨g1,g2,by omega⟩
   ·obtain ⟨g1,g2,g3⟩:=au.xM cl l par dp h hu.2 x hx;exact ⟨g1,g2,by omega⟩
end
theorem NY (l:List au) (h:Gg l=0) (hsm:au.aC l) (hz:au.aZ l<=900000):au.lg l/\∀ x∈au.aY l,x.Xf=14->au.lg x.kids/\au.aZ x.kids<=900000:=by obtain ⟨h1,h2⟩:=Fa h;have h3:=Rf h;refine ⟨au.ru tq l 0 0 h1 h3 hsm hz,fun x hx hk=>?_⟩;obtain ⟨⟨d',g1⟩,g2,g3⟩:=au.xM tq l 0 0 h1 (by rw [au.oV];exact h2) x hx;rw [hk] at g1;have g4:=(qm (au.kC l hsm x hx)).1;have g5:=au.oQ tq x.kids 14 d' (by decide) (by decide) g1 g2;exact ⟨au.ru tq _ 14 d' g1 g5 g4 (by omega),by omega⟩
mutual
theorem Ob:∀ (b:au),b.each.length=b.sz
 | .mk k lv i t d ti a li ks=>by rw [au.each,au.sz,List.length_cons,tu ks];omega
theorem tu:∀ (l:List au),(au.aY l).length=au.aZ l
 | []=>by rw [au.aY,au.aZ];rfl
 | x::l=>by rw [au.aY,au.aZ,List.length_append,Ob x,tu l]
end
theorem H6 {x:au} (h:x.small):x.iOf.size<=300:=by obtain ⟨k,lv,i,t,d,ti,a,li,ks⟩:=x;rw [au.small] at h;exact h.1
theorem qw:∀ (l:List au),(l.flatMap jg).length<=l.length
 | []=>by simp
 | x::l=>by
  have h:=qw l;rw [List.flatMap_cons,List.length_append,List.length_cons];have h2:(jg x).length<=1:=by obtain ⟨k,lv,i,t,d,ti,a,li,ks⟩:=x;unfold jg;dsimp only;split<;>simp
  omega
open Go.RowKit
def Lc (v:Value):List Value:=[.int .i64 0,.int .i64 0,.string ⟨#[]⟩,.string ⟨#[]⟩,.string ⟨#[]⟩,.string ⟨#[]⟩,.string ⟨#[]⟩,.slice none 0 0,.slice none 0 0,v,.slice none 0 0]
def AO (l:List aj):au:=.mk 0 0 ⟨#[]⟩ ⟨#[]⟩ ⟨#[]⟩ ⟨#[]⟩ Gj l []
theorem CQ (l:List aj) (v:Value) (w:World) (h:Rd (·<w.heap.size) w (bC l) [v]) (hwl:aj.uZ l) (hll:l.length<=reachBytes) : Calls Tryz.prog 15 #[.agg #[.slice none 0 0,.slice (some ⟨w.heap.size,0,none⟩) 1 1]] (w.alloc (.cells (Lc v).toArray 30)) fun e w'=>∃ b,e=.returned (.bool b)/\(b=true->aj.aC l/\aj.aZ l<=120)/\Below w.heap.size w w':=by
 obtain ⟨w0,hw0⟩:∃ w0,w0=w.alloc (.cells (Lc v).toArray 30):=⟨_,rfl⟩;have b0:Below w.heap.size w w0:=by rw [hw0];exact (Below.refl _ _).alloc (jh2 _) _
 have k:CB 30 w.heap.size (Lc v) w0:=by rw [hw0];exact CB.new _ _ _
 have rd:Rd (·<w0.heap.size) w0 (dS [AO l]) [.slice (some ⟨w.heap.size,0,none⟩) 1 1]:=
  Rd.J4 (l:=[AO l].map au.d) (rows:=[Lc v]) (by simp) (by unfold maxLen;decide) (aP.one (au.fJ 0 0 ⟨#[]⟩ ⟨#[]⟩ ⟨#[]⟩ ⟨#[]⟩ ⟨xL _ _,h.up b0,Rd.ay _ _ _⟩)) (by simp [Lc]) k.lt k.lt (fun j u hu=>k.cell j u (by simpa using hu))
 have wf:au.uZ [AO l]:=by
  have s0:uF (⟨#[]⟩:ByteArray):=by unfold uF;decide
  have i0:Xj 0:=by unfold Xj;decide
  unfold au.uZ au.uZ AO au.wf au.uZ;exact ⟨⟨i0,i0,s0,s0,s0,s0,⟨s0,by simp [Gj],by simp [Gj],by simp [Gj],by simp [Gj]⟩,hwl,hll,trivial,by simp⟩,trivial⟩
 rw [<- hw0];refine (Ld [] [AO l] _ _ w0 (Rd.ay _ _ _) rd (by simp) wf).mono ?_;rintro e w' ⟨b,he,hb,hbl⟩;refine ⟨b,he,fun ht=>?_,aM b0 hbl⟩;have hd:=(hb ht).blks;unfold au.aC AO au.small at hd;exact ⟨hd.1.2.2.2.2.2.1,hd.1.2.2.2.2.2.2.1⟩
end Go.Proofs.YtclikfjalmcoaaaGreatDoor

