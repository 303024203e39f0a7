/- Contracts of html.Line and publisherref34.Line. Plain part: the errors and the nodes of Blocks and Page; the small case of layer 34. What the statements of layer 34 share: text, same, has; Small at a document with one block that has a line only. Plain part: the notes of a well-formed document: what the walks ask of their blocks. Plain part: what the walk of publisherref34.block asks of a block; a well-formed, small document without unresolved inlines has it. Plain part: what the walk of the reference asks of the blocks of a well-formed document, and of its notes. Contracts of publisherref34.table, and of publisherref34.block at a table. Contracts of publisherref34.block and publisherref34.inner: the nodes of blocks. -/
import Derived.Test.YtkfnkeflalcphaaGreatDoorKRpF
import Derived.Test.YtkfnkeflalcphaaGreatDoorKHrK
set_option maxHeartbeats 8000000
set_option maxRecDepth 100000
open Go.Lib (hid)
namespace Go.Proofs.YtkfnkeflalcphaaGreatDoor
open Go.RowKit.Below renaming refl->jD7
open Nat renaming le_refl->jD8
open List renaming length_map->jDx
open Go renaming World->jG9
open Go.RowKit renaming Below->jGj
open Go.RowKit
set_option linter.unusedVariables false
set_option linter.unusedSimpArgs false
def lnE (l:List aj):Nat:=if oV l≠0 then oV l else if jA l=true then 5 else 0
def lnN (l:List aj):List Nd:=if lnE l=0 then dQ l else []
def bJ (w:jG9) (E:Nat) (L:List Nd) (e:Ending) (w':jG9):Prop:=
 ∃ rows v,e=.returned (.tuple #[v,.int .i64 (E:Int)])/\aF 35 4 (fun _=>False) w'.heap.size w (L.map Nd.d) rows v w'
theorem bJ.nil {w w':jG9} {E:Nat} {L:List Nd} (hL:L=[]) (h:jGj w.heap.size w w'):bJ w E L (.returned (.tuple #[.slice none 0 0,.int .i64 (E:Int)])) w':=by subst hL;exact ⟨[],_,rfl,((aF.nil _ _ _ w).below h).top⟩
def Zn (l:List aj):ah:=.mk 1 0 ⟨#[]⟩ ⟨#[]⟩ ⟨#[]⟩ ⟨#[]⟩ ⟨⟨#[]⟩,[],[]⟩ l []
theorem Gi (l:List aj):ah.aS [Zn l]=aj.aP l:=by rw [ah.aS,ah.aS,List.append_nil,Zn,ah.inls,ah.aS,List.append_nil]
mutual
theorem aj.jk5:∀ (x:aj),x.src->x.cf
 | .mk k t d ti a ar ci ks,h=>by
  rw [aj.src] at h;rw [aj.cf];refine ⟨?_,aj.Ej ks h.2⟩;have h1:=h.1;unfold oO at h1;split at h1
  ·cases h1
  ·rename_i h0
   have hf:xV k t d ti a ar ci ks=true:=by simpa using h0
   unfold xV at hf;simp only [Bool.and_eq_true] at hf;have ha:=hf.1.1.1.2;by_cases hk:k=10\/k=11
   ·rcases hk with rfl | rfl
    ·rw [if_neg (by decide),if_neg (by decide),if_neg (by decide),if_neg (by decide),if_pos (.inr rfl)] at h1;unfold Qa at h1;split at h1
     ·cases h1
     ·split at h1
      ·cases h1
      ·split at h1
       ·cases h1
       ·split at h1
        ·cases h1
        ·exact sF a (by simpa using h1)
    ·rw [if_neg (by decide),if_neg (by decide),if_neg (by decide),if_neg (by decide),if_neg (by decide),if_pos rfl] at h1;split at h1
     ·cases h1
     ·exact sF a h1
   ·refine Gj a ?_;rw [Bool.or_eq_true] at ha;rcases ha with ha | ha
    ·exfalso;simp at ha;omega
    ·exact ha
theorem aj.Ej:∀ (l:List aj),aj.El l->aj.VU l
 | [],_=>by rw [aj.VU];trivial
 | x::l,h=>by
  rw [aj.El] at h;rw [aj.VU];exact ⟨aj.jk5 x h.1,aj.Ej l h.2⟩
end
theorem Mq (l:List aj) (h:oV l=0):aj.VU l:=aj.Ej l (aj.sG l 0 true 0 h)
theorem Zo{P:Prop}(h:P:=by
 have h5:EE=E0:=by rw [Gl.out,if_pos (by simpa using h0)]
 rw [h5];exact bJ.nil (by rw [Qh.out,h5,if_neg h0]) B1.out):P:=h
theorem Mr (l:List aj) (v:Value) (w:jG9) (hrd:Rd (·<w.heap.size) w (bG l) [v]) (hsm:aj.aB l) (hsz:aj.aY l<=900000) : Calls Tryz.prog 32 #[v] w (bJ w (lnE l) (lnN l)):=by
 obtain ⟨a,cap,hv,-⟩:=Rd.ay hrd;obtain rfl:v=.slice a l.length cap:=by simpa using hv
 clear hv;have LC:=hid (Em l a cap w hsm hrd);have Oi:=hid hrd;have cO:=hid hsm;have hee:lnE l=if oV l≠0 then oV l else if jA l=true then 5 else 0:=rfl
 have hnn:lnN l=if lnE l=0 then dQ l else []:=rfl
 obtain ⟨E0,hE0⟩:∃ E0,E0=oV l:=⟨_,rfl⟩;obtain ⟨EE,Jb⟩:∃ EE,EE=lnE l:=⟨_,rfl⟩;obtain ⟨NN,Jc⟩:∃ NN,NN=lnN l:=⟨_,rfl⟩;rw [<- hE0] at LC hee;rw [<- Jb] at hee hnn;rw [<- Jc] at hnn;rw [<- Jb,<- Jc];have Gl:=hid hee;have Qh:=hid hnn;have HE0:=hid hE0;clear hrd hsm hee hnn hE0 Jb Jc;go_enter Tryz.func32,Tryz.ntmps32;go_wp2_with fail
 (with_reducible refine LC.out.mono ?_)
 rintro e w1 ⟨rfl,b1⟩;have B1:=hid b1;have hz1:=b1.size;clear b1 LC;by_cases h0:E0=0
 ·have q1:((E0:Int) != 0)=false:=by rw [h0];rfl
  have Wq:Hid (oV l=0):=by show _=_;rw [<- HE0.out,h0]
  have yu:Hid (EE=if jA l=true then 5 else 0):=by show _=_;rw [Gl.out,if_neg (by simp [h0])]
  obtain ⟨wL,Zp⟩:∃ wL,wL=w1.alloc (.cells #[.int .i64 1,.int .i64 0,.string ⟨#[]⟩,.string ⟨#[]⟩,.string ⟨#[]⟩,.string ⟨#[]⟩,.string ⟨#[]⟩,.slice none 0 0,.slice none 0 0,.slice a l.length cap,.slice none 0 0] 48):=⟨_,rfl⟩;have bL:jGj w1.heap.size w1 wL:=by rw [Zp];exact (jD7 _ _).alloc (jD8 _) _
  have rL:Rd (·<wL.heap.size) wL (nN [Zn l]) [.slice (some ⟨w1.heap.size,0,none⟩) 1 1]:=by
   rw [Zp];have h:=aF.one (T:=48) (k:=11) (w:=w1) (d:=(Zn []).d) (r:=[.int .i64 1,.int .i64 0,.string ⟨#[]⟩,.string ⟨#[]⟩,.string ⟨#[]⟩,.string ⟨#[]⟩,.string ⟨#[]⟩,.slice none 0 0,.slice none 0 0,.slice none 0 0,.slice none 0 0]) rfl (ah.dJ 1 0 ⟨#[]⟩ ⟨#[]⟩ ⟨#[]⟩ ⟨#[]⟩ (a:=⟨⟨#[]⟩,[],[]⟩) ⟨⟨Rd.aC _ _ _,Rd.aC _ _ _⟩,Rd.aC _ _ _,Rd.aC _ _ _⟩);have hb:Rd (·<(w1.alloc (.cells #[.int .i64 1,.int .i64 0,.string ⟨#[]⟩,.string ⟨#[]⟩,.string ⟨#[]⟩,.string ⟨#[]⟩,.string ⟨#[]⟩,.slice none 0 0,.slice none 0 0,.slice a l.length cap,.slice none 0 0] 48)).heap.size) (w1.alloc (.cells #[.int .i64 1,.int .i64 0,.string ⟨#[]⟩,.string ⟨#[]⟩,.string ⟨#[]⟩,.string ⟨#[]⟩,.string ⟨#[]⟩,.slice none 0 0,.slice none 0 0,.slice a l.length cap,.slice none 0 0] 48)) (Zn l).d [.int .i64 1,.int .i64 0,.string ⟨#[]⟩,.string ⟨#[]⟩,.string ⟨#[]⟩,.string ⟨#[]⟩,.string ⟨#[]⟩,.slice none 0 0,.slice none 0 0,.slice a l.length cap,.slice none 0 0]:=
    ah.dJ 1 0 ⟨#[]⟩ ⟨#[]⟩ ⟨#[]⟩ ⟨#[]⟩ (a:=⟨⟨#[]⟩,[],[]⟩) ⟨⟨Rd.aC _ _ _,Rd.aC _ _ _⟩,(Oi.out.up B1.out).up ((jD7 _ _).alloc (jD8 _) _),Rd.aC _ _ _⟩
   refine Rd.fG (rows:=[_]) (B:=w1.heap.size) (e:=48) ⟨rfl,.inr ⟨w1.heap.size,1,_,rfl,jD8 _,heap_alloc_new w1 _,by simp,by unfold maxLen;simp,rfl,rfl⟩⟩ (aR.one hb) (by simp) (fun g hg=>?_);have e1:w1.heap.size=g:=by simpa [Value.ownBlock] using hg
   rw [World.size_alloc];omega
  have IC:=vH [Zn l] (.slice (some ⟨w1.heap.size,0,none⟩) 1 1) wL rL (by rw [ah.uw,ah.uw,Zn,ah.bd,ah.uw];exact ⟨⟨by simp,by simp,aj.kR l cO.out,by omega,trivial⟩,trivial⟩)
   (by rw [ah.aY,ah.aY,Zn,ah.sz,ah.aY];omega) (by rw [Gi,aj.fM];omega)
  rw [Gi] at IC;have IL:=hid IC;have BL:=hid (q01 B1.out bL);clear IC rL bL h0;go_upto_region 4 with (fail)
  have jw5:=hid Zp;clear Zp;go_wp2_with fail
  rw [<- jw5.out]
  (with_reducible refine IL.out.mono ?_)
  rintro e w2 ⟨v2,aZ,rfl,hown2,Ms,sH,b2⟩;have wK:Rd (fun _=>True) w2 (bG (aj.aP l)) [v2]:=Rd.fG (by rw [jDx];exact hown2) Ms sH (fun _ _=>trivial);have UC:=yw (aj.aP l) _ v2 w2 wK;have hue:(aj.aP l).any eH=jA l:=rfl;rw [hue] at UC;have UL:=hid UC;have B2:=hid (q01 BL.out b2);clear hown2 Ms sH b2 wK UC IL hue;go_wp2_with fail
  (with_reducible refine UL.out.mono ?_)
  rintro e w3 ⟨rfl,b3⟩;have B3:=hid (q01 B2.out b3);obtain ⟨u,hu⟩:∃ u,u=jA l:=⟨_,rfl⟩;rw [<- hu] at yu;rw [<- hu];have HU:=hid hu;clear b3 UL hu;cases u with
  | true=>
   have HF:Hid (bJ w EE NN (.returned (.tuple #[.slice none 0 0,.int .i64 5])) w3):=by
    have h5:EE=5:=by rw [yu.out];rfl
    rw [h5];exact bJ.nil (by rw [Qh.out,h5];rfl) B3.out
   go_wp2
   go_ret2
   exact HF.out
  | false=>
   have HC:=hid (uG 900000 l (.slice a l.length cap) w3 hsz (by omega) (Oi.out.up B3.out) cO.out (En l Wq.out HU.out.symm));go_wp2_with fail
   (with_reducible refine HC.out.mono ?_)
   rintro e w4 ⟨bD,v4,rfl,hrow4⟩;have HF:Hid (bJ w EE NN (.returned (.tuple #[v4,.int .i64 0])) w4):=by
    have h5:EE=0:=by rw [yu.out];rfl
    have hN:NN=dQ l:=by rw [Qh.out,h5];rfl
    rw [h5,hN];exact ⟨bD,v4,rfl,hrow4.lV B3.out.size (q01 B3.out hrow4.aM)⟩
   clear hrow4 HC;go_wp2
   go_ret2
   exact HF.out
 ·have q1:((E0:Int) != 0)=true:=by rw [bne_iff_ne];omega
  have HF:Hid (bJ w EE NN (.returned (.tuple #[.slice none 0 0,.int .i64 (E0:Int)])) w1):=by exact Zo
  clear h0;go_wp2
  go_ret2
  exact HF.out
def Bo (l:List ah):Nat:=if ah.aQ iT 0 0 l≠0 then ah.aQ iT 0 0 l else if (ah.aS l).any eH=true then 5 else 0
def Q7 (l:List ah):List Nd:=if Bo l=0 then jB l else []
def pgE (me:List Pr) (l:List ah) (title lang:ByteArray):Nat:=
 if jw iT me l≠0 then jw iT me l else if dG title=false then 17 else if dZ lang=false then 6 else if (ah.aS l).any eH=true then 5 else 0
def Ck:Nd:=.mk ⟨#[]⟩ ⟨#[]⟩ [] []
def Ws (me:List Pr) (l:List ah) (title lang:ByteArray):Nd:=if pgE me l title lang=0 then JM title lang (jB l) else Ck
theorem jk6 {me:List Pr} {l:List ah} (h:jw iT me l=0):ah.aQ iT 0 0 l=0:=by
 unfold jw at h;split at h
 ·cases h
 ·split at h
  ·rename_i h1;exact absurd h h1
  ·exact h
theorem yx {l:List ah} (h:Bo l=0):ah.aQ iT 0 0 l=0/\(ah.aS l).any eH=false:=by
 unfold Bo at h;split at h
 ·rename_i h1;exact absurd h h1
 ·rename_i h1
  split at h
  ·cases h
  ·rename_i h2
   exact ⟨Classical.not_not.1 h1,by simpa using h2⟩
theorem Oj (s:ByteArray):(((At.err ⟨⟨#[]⟩,[],[⟨⟨#[116,105,116,108,101]⟩,s⟩]⟩:Nat):Int)==0)=dG s:=by
 have h1:dZ (⟨#[116,105,116,108,101]⟩:ByteArray)=true:=by decide +kernel
 have h2:uH [] [⟨⟨#[116,105,116,108,101]⟩,s⟩]=if dG s=false then 17 else 0:=by
  rw [uH,h1];have h0:dS [] (⟨#[116,105,116,108,101]⟩:ByteArray)=false:=rfl;rw [if_neg (by decide),h0];split
  ·rfl
  ·rfl
 cases hs:dG s with
 | true=>
  rw [hs] at h2;have h3:At.err ⟨⟨#[]⟩,[],[⟨⟨#[116,105,116,108,101]⟩,s⟩]⟩=0:=by unfold At.err;rw [h2];rfl
  rw [h3];rfl
 | false=>
  rw [hs] at h2;have h3:At.err ⟨⟨#[]⟩,[],[⟨⟨#[116,105,116,108,101]⟩,s⟩]⟩=17:=by unfold At.err;rw [h2];rfl
  rw [h3];rfl
theorem Mt {l:List ah} (h:Bo l=0):ah.qz l:=by obtain ⟨h1,h2⟩:=yx h;exact ah.oW iT l 0 0 (by decide) (by decide) h1 (by rw [ah.oZ];exact h2)
def Q8:At:=⟨⟨#[]⟩,[],[]⟩
def eTx (t:ByteArray):aj:=.mk 1 t ⟨#[]⟩ ⟨#[]⟩ Q8 [] [] []
def Mv:aj:=.mk 2 ⟨#[]⟩ ⟨#[]⟩ ⟨#[]⟩ Q8 [] [] []
def Eo:aj:=.mk 14 ⟨#[97]⟩ ⟨#[]⟩ ⟨#[]⟩ Q8 [] [] []
def eL:List aj:=[eTx ⟨#[97]⟩,Mv,eTx ⟨#[98]⟩]
def Gm:ah:=.mk 5 0 ⟨#[]⟩ ⟨#[]⟩ ⟨#[]⟩ ⟨#[]⟩ Q8 [] []
def Mw:ah:=.mk 14 0 ⟨#[120]⟩ ⟨#[]⟩ ⟨#[]⟩ ⟨#[]⟩ Q8 [] []
def yD:ah:=.mk 6 0 ⟨#[]⟩ ⟨#[]⟩ ⟨#[]⟩ ⟨#[]⟩ Q8 [] [Mw]
theorem jw6:lnE eL=0:=by decide +kernel
theorem jw7:lnN eL=[Cm ⟨#[97,32,98]⟩]:=by rfl
theorem jw8:Bo [Gm]=0:=by decide +kernel
theorem jw9:Q7 [Gm]=[aJ nHr [] []]:=by rfl
theorem jwj:Bo [yD]=0:=by decide +kernel
theorem jwk:Q7 [yD]=[aJ qU [] [],aJ Q9 [⟨dx,eO⟩] [aJ jS [⟨jT,⟨#[110,111,116,101,45,120]⟩⟩,⟨dx,dO⟩] []]]:=by rfl
theorem jwq:pgE [] [] ⟨#[84]⟩ ⟨#[101,110]⟩=0:=by decide +kernel
theorem jwx:Ws [] [] ⟨#[84]⟩ ⟨#[101,110]⟩=aJ Zq [⟨kS,⟨#[101,110]⟩⟩] [aJ sI [] [aJ lu [⟨Jd,iY⟩] [],aJ iU [] [Cm ⟨#[84]⟩]],aJ vI [] []]:=by rfl
theorem e_r:lnE [Eo]=5:=by decide +kernel
open Go.RowKit
def eC (t:ByteArray):List Value:=[.int .i64 1,.string t,.string ⟨#[]⟩,.string ⟨#[]⟩,.string ⟨#[]⟩,.slice none 0 0,.slice none 0 0,.slice none 0 0,.slice none 0 0,.slice none 0 0]
theorem jk7 (t:ByteArray) (w:jG9) : Calls Tryz.prog 33 #[.string t] w fun e w'=>e=.returned (.agg (eC t).toArray)/\jGj w.heap.size w w':=by
 obtain ⟨w0,hw0⟩:∃ w0,w0=w.alloc (.cells #[.int .i64 0,.string ⟨#[]⟩,.string ⟨#[]⟩,.string ⟨#[]⟩,.string ⟨#[]⟩,.slice none 0 0,.slice none 0 0,.slice none 0 0,.slice none 0 0,.slice none 0 0] 66):=⟨_,rfl⟩;have b0:jGj w.heap.size w w0:=by rw [hw0];exact (jD7 _ _).alloc (jD8 _) _
 have P0:PB w.heap.size [.int .i64 0,.string ⟨#[]⟩,.string ⟨#[]⟩,.string ⟨#[]⟩,.string ⟨#[]⟩,.slice none 0 0,.slice none 0 0,.slice none 0 0,.slice none 0 0,.slice none 0 0] w0:=by rw [hw0];exact heap_alloc_new w _
 have r0:=P0.cell 0 _ rfl;have r1:=P0.cell 1 _ rfl;have r2:=P0.cell 2 _ rfl;have r3:=P0.cell 3 _ rfl;have r4:=P0.cell 4 _ rfl;have r5:=P0.cell 5 _ rfl;have r6:=P0.cell 6 _ rfl;have r7:=P0.cell 7 _ rfl;have r8:=P0.cell 8 _ rfl;have r9:=P0.cell 9 _ rfl;have g0:=P0.free 0;have g1:=P0.free 1;have g2:=P0.free 2;have g3:=P0.free 3;have g4:=P0.free 4;have g5:=P0.free 5;have g6:=P0.free 6;have g7:=P0.free 7;have g8:=P0.free 8;have g9:=P0.free 9;have FB:=hid (fun u0 u1 u2 u3 u4 u5 u6 u7 u8 u9=>(((((((((b0.setCell (p:=⟨w.heap.size,0,none⟩) (jD8 _) u0).setCell (p:=⟨w.heap.size,1,none⟩) (jD8 _) u1).setCell (p:=⟨w.heap.size,2,none⟩) (jD8 _) u2).setCell (p:=⟨w.heap.size,3,none⟩) (jD8 _) u3).setCell (p:=⟨w.heap.size,4,none⟩) (jD8 _) u4).setCell (p:=⟨w.heap.size,5,none⟩) (jD8 _) u5).setCell (p:=⟨w.heap.size,6,none⟩) (jD8 _) u6).setCell (p:=⟨w.heap.size,7,none⟩) (jD8 _) u7).setCell (p:=⟨w.heap.size,8,none⟩) (jD8 _) u8).setCell (p:=⟨w.heap.size,9,none⟩) (jD8 _) u9);clear P0 b0;go_enter Tryz.func33,Tryz.ntmps33;go_upto_region 1 with (fail)
 rw [<- hw0];clear hw0;go_wp2;exact bodyPost_ret (v:=.agg (eC t).toArray) (by simp [eC,results,Tryz.results33,go_sem,r0,r1,r2,r3,r4,r5,r6,r7,r8,r9]) rfl ⟨rfl,FB.out _ _ _ _ _ _ _ _ _ _⟩
theorem Rd.Ra {ok:Nat->Prop} {w:jG9} {k:Nat} {l:List D} {rows:List (List Value)} {b cap:Nat} (hl:l.length<=cap) (hm:cap<=maxLen) (h:aR ok w l rows) (hk:∀ r∈rows,r.length=k) (hok:ok b) (hb:b<w.heap.size) (hc:∀ j u,rows.flatten[j]?=some u->w.cell? ⟨b,j,none⟩=some u):Rd ok w (.sl k l) [.slice (some ⟨b,0,none⟩) l.length cap]:=by exact Zr
theorem Ep (ok:Nat->Prop) (w:jG9):AtR ok w Q8 (.slice none 0 0) (.slice none 0 0):=⟨Rd.aC _ _ _,Rd.aC _ _ _⟩
theorem Rb (ok:Nat->Prop) (w:jG9) (t:ByteArray):Rd ok w (eTx t).d (eC t):=aj.dJ 1 t ⟨#[]⟩ ⟨#[]⟩ ⟨Ep _ _,Rd.aC _ _ _,Rd.aC _ _ _,Rd.aC _ _ _⟩
theorem jk8 (ks:List Nd) (va vb:Value) (w:jG9) (hA:Rd (·<w.heap.size) w (gD ks) [va]) (hB:Rd (·<w.heap.size) w (gD ks) [vb]) : Calls Tryz.prog 15 #[va,vb] w (Wt w):=by
 obtain ⟨aa,na,ca,rfl⟩:=Rd.au hA;obtain ⟨ab,nb,cb,rfl⟩:=Rd.au hB;have SC:Hid (Calls Tryz.prog 18 #[.agg #[.string ⟨#[112]⟩,.string ⟨#[]⟩,.slice none 0 0,.slice aa na ca],.agg #[.string ⟨#[112]⟩,.string ⟨#[]⟩,.slice none 0 0,.slice ab nb cb]] w (Wt w)):=JO _ (aJ nP [] ks) (.slice none 0 0) (.slice aa na ca) (.slice none 0 0) (.slice ab nb cb) w (jD8 _) ⟨Rd.aC _ _ _,hA⟩ ⟨Rd.aC _ _ _,hB⟩;clear hA hB;go_enter Tryz.func15,Tryz.ntmps15;go_wp2_with fail
 (with_reducible refine SC.out.mono ?_)
 rintro e w1 ⟨rfl,b1⟩;go_wp2;go_ret;exact ⟨rfl,b1⟩
theorem Wu (ok:Nat->Prop) (w:jG9):Rd ok w Mv.d [.int .i64 2,.string ⟨#[]⟩,.string ⟨#[]⟩,.string ⟨#[]⟩,.string ⟨#[]⟩,.slice none 0 0,.slice none 0 0,.slice none 0 0,.slice none 0 0,.slice none 0 0]:=aj.dJ 2 ⟨#[]⟩ ⟨#[]⟩ ⟨#[]⟩ ⟨Ep _ _,Rd.aC _ _ _,Rd.aC _ _ _,Rd.aC _ _ _⟩
theorem jk9 (ok:Nat->Prop) (w:jG9):Rd ok w Eo.d [.int .i64 14,.string ⟨#[97]⟩,.string ⟨#[]⟩,.string ⟨#[]⟩,.string ⟨#[]⟩,.slice none 0 0,.slice none 0 0,.slice none 0 0,.slice none 0 0,.slice none 0 0]:=aj.dJ 14 ⟨#[97]⟩ ⟨#[]⟩ ⟨#[]⟩ ⟨Ep _ _,Rd.aC _ _ _,Rd.aC _ _ _,Rd.aC _ _ _⟩
theorem o8:Q8.short:=⟨by decide,by decide,by decide,fun _ h=>(by cases h),fun _ h=>(by cases h)⟩
theorem Cn (t:ByteArray) (h:t.size<=300):(eTx t).small:=by unfold eTx aj.small aj.aB;exact ⟨h,by decide,by decide,o8,by decide,by decide,fun _ h=>(by cases h),fun _ h=>(by cases h),trivial⟩
theorem Zt{P:Prop}(h:P:=by
 exact ⟨by decide,by decide,by decide,o8,by decide,by decide,fun _ h=>(by cases h),fun _ h=>(by cases h),trivial⟩):P:=h
theorem Gn:Mv.small:=by unfold Mv aj.small aj.aB;exact Zt
theorem JQ:Eo.small:=by unfold Eo aj.small aj.aB;exact Zt
theorem Rc:aj.aB eL:=by unfold eL aj.aB aj.aB aj.aB aj.aB;exact ⟨Cn _ (by decide),Gn,Cn _ (by decide),trivial⟩
theorem Rf:aj.aB [Eo]:=by unfold aj.aB aj.aB;exact ⟨JQ,trivial⟩
theorem vJ:ah.aB [Gm]:=by
 have h1:=o8;have h3:aj.aY []<=120:=by decide +kernel
 have h4:(⟨#[]⟩:ByteArray).size<=300:=by decide
 simp [Gm,ah.aB,ah.small,h1,h3,h4,aj.aB]
theorem sJ:ah.aB [yD]:=by
 have h1:=o8;have h3:aj.aY []<=120:=by decide +kernel
 have h4:(⟨#[]⟩:ByteArray).size<=300:=by decide
 have h5:(⟨#[120]⟩:ByteArray).size<=300:=by decide
 simp [yD,Mw,ah.aB,ah.small,h1,h3,h4,h5,aj.aB]
def Zu (k:Int) (i:ByteArray) (vk:Value):List Value:=[.int .i64 k,.int .i64 0,.string i,.string ⟨#[]⟩,.string ⟨#[]⟩,.string ⟨#[]⟩,.string ⟨#[]⟩,.slice none 0 0,.slice none 0 0,.slice none 0 0,vk]
theorem jkj {ok:Nat->Prop} {w:jG9} (k:Int) (i:ByteArray) (ks:List ah) (vk:Value) (h:Rd ok w (nN ks) [vk]):Rd ok w (ah.mk k 0 i ⟨#[]⟩ ⟨#[]⟩ ⟨#[]⟩ Q8 [] ks).d (Zu k i vk):=ah.dJ k 0 i ⟨#[]⟩ ⟨#[]⟩ ⟨#[]⟩ ⟨Ep _ _,Rd.aC _ _ _,h⟩
theorem JR (k:Int) (i:ByteArray) (ks:List ah) (vk:Value) (w:jG9) (h:Rd (·<w.heap.size) w (nN ks) [vk]) : Rd (·<(w.alloc (.cells (Zu k i vk).toArray 48)).heap.size) (w.alloc (.cells (Zu k i vk).toArray 48)) (nN [.mk k 0 i ⟨#[]⟩ ⟨#[]⟩ ⟨#[]⟩ Q8 [] ks]) [.slice (some ⟨w.heap.size,0,none⟩) 1 1]:=by have hb:jGj w.heap.size w (w.alloc (.cells (Zu k i vk).toArray 48)):=(jD7 _ _).alloc (jD8 _) _;have kk:CB 48 w.heap.size (Zu k i vk) (w.alloc (.cells (Zu k i vk).toArray 48)):=CB.new _ _ w;exact Rd.Ra (l:=[ah.mk k 0 i ⟨#[]⟩ ⟨#[]⟩ ⟨#[]⟩ Q8 [] ks].map ah.d) (rows:=[Zu k i vk]) (by simp) (by unfold maxLen;decide) (aR.one (jkj k i ks vk (h.up hb))) (by simp [Zu]) kk.lt kk.lt (fun j u hu=>kk.cell j u (by simpa using hu))
mutual
theorem ah.Wv (cl:ByteArray->Bool):∀ (b:ah) (par:Int) (dp:Nat),b.err cl par dp=0->b.bG.any eH=false->∀ x∈b.each,(∃ d',ah.aQ cl x.kOf d' x.kids=0)/\(ah.dL x.kids).any eH=false/\ah.aY x.kids<=b.sz
 | .mk k lv i t d ti a li ks,par,dp,h,hu,x,hx=>by
  obtain ⟨h2,hbf,h3⟩:=fP cl h;rw [ah.bG,List.any_append,Bool.or_eq_false_iff] at hu;rw [ah.each] at hx;rw [ah.sz];rcases List.mem_cons.1 hx with rfl | hx
  ·exact ⟨⟨dp+1,h3⟩,hu.2,by show ah.aY ks<=_;omega⟩
  ·obtain ⟨g1,g2,g3⟩:=ah.yE cl ks k (dp+1) h3 hu.2 x hx;exact ⟨g1,g2,by omega⟩
theorem ah.yE (cl:ByteArray->Bool):∀ (l:List ah) (par:Int) (dp:Nat),ah.aQ cl par dp l=0->(ah.dL l).any eH=false->∀ x∈ah.aT l,(∃ d',ah.aQ cl x.kOf d' x.kids=0)/\(ah.dL x.kids).any eH=false/\ah.aY x.kids<=ah.aY l
 | [],_,_,_,_,x,hx=>by rw [ah.aT] at hx;cases hx
 | y::l,par,dp,h,hu,x,hx=>by
  rw [ah.aQ] at h;rw [ah.dL,List.any_append,Bool.or_eq_false_iff] at hu;rw [ah.aT] at hx;rw [ah.aY];by_cases h1:y.err cl par dp≠0
  ·rw [if_pos h1] at h;exact absurd h h1
  ·rw [if_neg h1] at h;rcases List.mem_append.1 hx with hx | hx
   ·obtain ⟨g1,g2,g3⟩:=ah.Wv cl y par dp (Classical.not_not.1 h1) hu.1 x hx;exact ⟨g1,g2,by omega⟩
   ·obtain ⟨g1,g2,g3⟩:=ah.yE cl l par dp h hu.2 x hx;exact ⟨g1,g2,by omega⟩
end
theorem Zv{P Q:Prop}(q:Q)(h:Nonempty Q->P:=by
 intro qQ;obtain ⟨⟨d',g1⟩,g2,g3⟩:=ah.yE iT l 0 0 h1 (by rw [ah.oZ];exact h2) x hx;rw [hk] at g1;have g4:=(jC (ah.iL l hsm x hx)).1;have g5:=ah.oW iT x.kids 14 d' (by decide) (by decide) g1 g2;revert d' g1 g2 g3 g4 g5;exact qQ.elim fun x=>x):P:=h ⟨q⟩
theorem Rh (l:List ah) (h:Bo l=0) (hsm:ah.aB l) (hz:ah.aY l<=900000):ah.lC l/\∀ x∈ah.aT l,x.kOf=14->ah.lC x.kids/\ah.aY x.kids<=900000:=by obtain ⟨h1,h2⟩:=yx h;have h3:=Mt h;refine ⟨ah.sK iT l 0 0 h1 h3 hsm hz,fun x hx hk=>?_⟩;refine Zv ?_;intro d' g1 g2 g3 g4 g5;exact ⟨ah.sK iT _ 14 d' g1 g5 g4 (by omega),by omega⟩
mutual
theorem Ri:∀ (b:ah),b.each.length=b.sz
 | .mk k lv i t d ti a li ks=>by rw [ah.each,ah.sz,List.length_cons,o9 ks];omega
theorem o9:∀ (l:List ah),(ah.aT l).length=ah.aY l
 | []=>by rw [ah.aT,ah.aY];rfl
 | x::l=>by rw [ah.aT,ah.aY,List.length_append,Ri x,o9 l]
end
theorem yF {x:ah} (h:x.small):x.iOf.size<=300:=by obtain ⟨k,lv,i,t,d,ti,a,li,ks⟩:=x;rw [ah.small] at h;exact h.1
theorem Gp (l:List ah) (k:Nat) (x:ah) (h:l[k]?=some x):(l.take (k+1)).flatMap qA=(l.take k).flatMap qA++qA x:=by rw [List.take_add_one,h,List.flatMap_append];simp
theorem lW:∀ (l:List ah),(l.flatMap qA).length<=l.length
 | []=>by simp
 | x::l=>by
  have h:=lW l;rw [List.flatMap_cons,List.length_append,List.length_cons];have h2:(qA x).length<=1:=by obtain ⟨k,lv,i,t,d,ti,a,li,ks⟩:=x;unfold qA;dsimp only;split<;>simp
  omega
structure TbR (i:ByteArray) (ks:List ah):Prop where
 ne:ks≠[]
 len:ks.length<=900000
 row:∀ r∈ks,r.kids.length=i.size/\r.kids.length<=1000000/\∀ c∈r.kids,LnR c.kT
mutual
def ah.yG:ah->Prop
 | .mk k lv i t d ti a li ks=>Mx i t a li/\(k=2\/k=8->0<=lv/\lv<=999999999)/\(k=10->TbR i ks)/\(k=13->aW i=false)/\(1<=k/\k<=15/\k≠11/\k≠12)/\(k≠10->ah.kU ks)
def ah.kU:List ah->Prop
 | []=>True
 | x::l=>x.yG/\ah.kU l
end
theorem ah.yH:∀ (l:List ah),ah.kU l->∀ x∈l,x.yG
 | [],_,x,hx=>by cases hx
 | y::l,h,x,hx=>by
  rw [ah.kU] at h;rcases List.mem_cons.1 hx with rfl | hx
  ·exact h.1
  ·exact ah.yH l h.2 x hx
mutual
theorem ah.Rj (cl:ByteArray->Bool):∀ (b:ah) (par:Int) (dp:Nat),b.err cl par dp=0->b.JU->b.small->b.sz<=900000->b.yG
 | .mk k lv i t d ti a li ks,par,dp,he,hh,hs,hz=>by
  obtain ⟨h2,hbf,h3⟩:=fP cl he;rw [ah.JU] at hh;obtain ⟨g1,g2,g3,g4,g5,g6,g7,g8⟩:=hh;rw [ah.small] at hs;obtain ⟨s1,s2,s3,s4,s5,s6,s7,s8⟩:=hs;rw [ah.sz] at hz;have hl:=Mq li (yJ cl h2 hbf);have hk:1<=k/\k<=15:=by exact Zw
  rw [ah.yG];refine ⟨⟨s1,s2,s5,g4,⟨by omega,s6,hl⟩⟩,g2,fun h10=>⟨(g3 h10).1,by have:=ah.fF ks;omega,fun r hr=>?_⟩,g5,⟨hk.1,hk.2,g6,g7⟩,fun h10=>ah.pq cl ks k (dp+1) h3 (g8 h10) s8 (by omega)⟩;have hr2:=jC (lD ks s8 r hr);have hr3:=Zx ks r hr;have hr4:=Gq r;have r1:=(nR cl k (dp+1) ks).1 h3 r hr;refine ⟨((g3 h10).2 r hr).1,by omega,fun c hc=>?_⟩;have hc2:=jC (lD r.kids hr2.1 c hc);obtain ⟨k',lv',i',t',d',ti',a',li',ks'⟩:=r;obtain ⟨-,-,q3⟩:=fP cl r1;have c1:=(nR cl k' (dp+1+1) ks').1 q3 c hc;obtain ⟨k9,lv9,i9,t9,d9,ti9,a9,li9,ks9⟩:=c;obtain ⟨u1,u2,-⟩:=fP cl c1;exact ⟨Nat.le_trans hc2.2.2 (by decide),hc2.2.1,Mq li9 (yJ cl u1 u2)⟩
theorem ah.pq (cl:ByteArray->Bool):∀ (l:List ah) (par:Int) (dp:Nat),ah.aQ cl par dp l=0->ah.qz l->ah.aB l->ah.aY l<=900000->ah.kU l
 | [],_,_,_,_,_,_=>by rw [ah.kU];trivial
 | x::l,par,dp,he,hh,hs,hz=>by
  rw [ah.aQ] at he;rw [ah.qz] at hh;rw [ah.aB] at hs;rw [ah.aY] at hz;rw [ah.kU];by_cases h1:x.err cl par dp≠0
  ·rw [if_pos h1] at he;exact absurd he h1
  ·rw [if_neg h1] at he;exact ⟨ah.Rj cl x par dp (Classical.not_not.1 h1) hh.1 hs.1 (by omega),ah.pq cl l par dp he hh.2 hs.2 (by omega)⟩
end
theorem Ol (l:List ah) (h:Bo l=0) (hsm:ah.aB l) (hz:ah.aY l<=900000):ah.kU l/\∀ x∈ah.aT l,x.kOf=14->ah.kU x.kids/\ah.aY x.kids<=900000:=by obtain ⟨h1,h2⟩:=yx h;have h3:=Mt h;refine ⟨ah.pq iT l 0 0 h1 h3 hsm hz,fun x hx hk=>?_⟩;refine Zv ?_;intro d' g1 g2 g3 g4 g5;exact ⟨ah.pq iT _ 14 d' g1 g5 g4 (by omega),by omega⟩
open Go.RowKit
def Rk (w1:jG9) (i:ByteArray) (rs:List ah) (v vi:Value) (wr:jG9):Prop:=
 ∃ (k:Nat) (rows:List (List Value)),k<=rs.length/\vi=.int .i64 ((k+1:Nat):Int)/\aF 35 4 (fun _=>False) wr.heap.size w1 (((rs.take k).map (fB mI i)).map Nd.d) rows v wr
theorem Rl (k lv:Int) (i t d ti:ByteArray) (at_:At) (li:List aj) (ks:List ah) (vc vp vl vk:Value) (w:jG9) (hR:eP (·<w.heap.size) w at_ li ks vc vp vl vk) (hT:TbR i ks) : Calls Tryz.prog 145 #[.agg #[.int .i64 k,.int .i64 lv,.string i,.string t,.string d,.string ti,.string at_.id,vc,vp,vl,vk]] w (qc w (Bq i ks)):=by
 obtain ⟨iN,qB,fC,fD,fE⟩:=info_parts gY;obtain ⟨ac,nc,cc,rfl⟩:=Rd.au hR.at_.cls
 obtain ⟨ap,np,cp,rfl⟩:=Rd.au hR.at_.aD
 obtain ⟨al,nl,cl,rfl⟩:=Rd.au hR.line;obtain ⟨ak,ck,hvk,hs⟩:=Rd.ay hR.kids;obtain ⟨nk,hnk⟩:∃ nk,nk=ks.length:=⟨_,rfl⟩;obtain rfl:vk=.slice ak nk ck:=by rw [hnk];simpa using hvk
 obtain ⟨x0,rs,rfl⟩:∃ x0 rs,ks=x0::rs:=by
  cases ks with
  | nil=>exact absurd rfl hT.ne
  | cons a b=>exact ⟨a,b,rfl⟩
 refine Zy ?_;intro hcap hmx JV JW S W0 hS hW0 z0 k0 k1 b0 hs2 hT0 hTR;have HTN:Hid (Bq i (x0::rs)=aJ nT [] (aJ AJ [] [fB rT i x0]::if rs.isEmpty=true then [] else [aJ iV [] (rs.map (fB mI i))])):=rfl;have hro:fB rT i x0=aJ jU [] (gN rT i.data.toList x0.kids):=rfl;obtain ⟨xk,MB,xi,xt,xd,MC,ME,Ww,mY⟩:=x0;obtain ⟨ga,off,xvc,xvp,xvl,xvk,rfl,hok,hbl,hc,hR0⟩:=Gr (k:=0) hs2 rfl;obtain ⟨xac,xnc,xcc,rfl⟩:=Rd.au hR0.at_.cls
 obtain ⟨xap,xnp,xcp,rfl⟩:=Rd.au hR0.at_.aD
 obtain ⟨xal,xnl,xcl,rfl⟩:=Rd.au hR0.line;obtain ⟨xak,xnk,xck,rfl⟩:=Rd.au hR0.kids;refine Zz ?_;intro hc;have CX:Hid (∀ w':jG9,jGj W0.heap.size W0 w'->w'.cell? ⟨S,2,none⟩=some (.string i)/\w'.cell? ⟨S,10,none⟩=some (.slice (some ⟨ga,off,none⟩) nk ck)/\dh w' ga off xk MB xi xt xd MC ME.id (.slice xac xnc xcc) (.slice xap xnp xcp) (.slice xal xnl xcl) (.slice xak xnk xck)):=fun w' hb=>
  ⟨(k0.below hb).cell 2 _ rfl,(k0.below hb).cell 10 _ rfl,hc.at2 (hb.block ga hbl)⟩
 have RC:Hid (∀ w':jG9,jGj W0.heap.size W0 w'->Calls Tryz.prog 185 #[.agg #[.int .i64 xk,.int .i64 MB,.string xi,.string xt,.string xd,.string MC,.string ME.id,.slice xac xnc xcc,.slice xap xnp xcp,.slice xal xnl xcl,.slice xak xnk xck],.string i,.string ⟨#[116,104]⟩] w' (qc w' (aJ jU [] (gN rT i.data.toList mY)))):=fun w' hb=>
  Gs xk MB xi xt xd MC ME Ww mY _ _ _ _ rT i w' (eP.sM hR0 (fun b (hb':b<S) hlt=>⟨by show b<w'.heap.size;have:=hb.size;omega,hb.block b (by omega)⟩)) hT0.1 hT0.2.1 hT0.2.2
 have HRO:Hid (fB rT i (.mk xk MB xi xt xd MC ME Ww mY)=aJ jU [] (gN rT i.data.toList mY)):=hro;have HS2:=hid hs2;refine Gt ?_;intro AO HW0 Z0 B0 K1;have ZB:=hid hTR;have uy:=hid JV;have jwz:0<nk:=by omega
 have jx0:(0:Int)<(nk:Int):=by omega
 clear hR hvk hs hs2 hS hW0 z0 k0 k1 b0 hc hT0 hTR hT hnk JV hR0 hro;go_enter Tryz.func145,Tryz.ntmps145;go_upto_region 1 with (fail)
 rw [<- AO.out];refine Gu ?_;refine Je 10 (fun w'=>jGj W0.heap.size W0 w') (by kernel_rfl) (jD7 _ _).drew ?_;intro hH;refine ZC ?_;obtain ⟨y0,hy0⟩:∃ y0,y0=W0.drew:=⟨_,rfl⟩;rw [<- hy0] at hH;rw [<- hy0];clear hy0;have pE:jGj W0.heap.size W0 y0:=hH;refine mJ ?_;intro KQ hK;go_at_call 185
 (with_reducible refine (RC.out y0 pE).mono ?_)
 rintro e y1 ⟨va,vk,he,hR,hb⟩;obtain ⟨aA,nA,cA,rfl⟩:=Rd.au hR.at_
 obtain ⟨aK,nK,cK,rfl⟩:=Rd.au hR.ks;refine MF ?_;intro he;subst he;have B1:jGj W0.heap.size W0 y1:=pE.trans (hb.mono pE.size);have HX1:=hid (aF.JX (x:=aJ jU [] (gN rT i.data.toList mY)) B1 ((Nd.dJ jU ⟨#[]⟩ hR).weaken (fun b hb=>Nat.le_trans pE.size hb)));clear hb hR;refine hK.out _ _ (fun _ _=>B1) (fun hH2=>?_);clear hK KQ hH;refine aL ?_;clear hH2;intro hH;refine yL ?_;intro KQ hK;obtain ⟨y2,hN⟩:∃ z,z=y1.alloc (.cells #[.string jU,.string ⟨#[]⟩,.slice aA nA cA,.slice aK nK cK] 35):=⟨_,rfl⟩;obtain ⟨f2,hf⟩:∃ z,z=y1.heap.size:=⟨_,rfl⟩;have Wx:=HX1.out;rw [<- hN,<- hf] at Wx;rw [<- hN,<- hf];have lX:jGj W0.heap.size W0 y2:=Wx.aM;have jqk:=hid Wx;clear hN hf Wx HX1;refine hK.out _ _ (fun _ _=>lX) (fun hH2=>?_);clear hK KQ hH;refine aL ?_;clear hH2;intro hH;refine Gv ?_;intro KQ hK;go_at_call 48
 (with_reducible refine (nU ⟨#[116,104,101,97,100]⟩ none (some ⟨f2,0,none⟩) 0 1 0 1 y2).mono ?_)
 rintro e y3 ⟨rfl,hb⟩;have B3:jGj W0.heap.size W0 y3:=lX.trans (hb.mono lX.size);have HX3:=hid (aF.JX (x:=aJ AJ [] [aJ jU [] (gN rT i.data.toList mY)]) B3 (Nd.dJ ⟨#[116,104,101,97,100]⟩ ⟨#[]⟩ ⟨Rd.aC _ _ _,(jqk.out.below hb).bZ⟩));clear hb jqk;refine hK.out _ _ (fun _ _=>B3) (fun hH2=>?_);clear hK KQ hH;refine aL ?_;clear hH2;intro hH;refine Co ?_;intro KQ hK;obtain ⟨y4,hN⟩:∃ z,z=y3.alloc (.cells #[.string ⟨#[116,104,101,97,100]⟩,.string ⟨#[]⟩,.slice none 0 0,.slice (some ⟨f2,0,none⟩) 1 1] 35):=⟨_,rfl⟩;obtain ⟨g,hf⟩:∃ z,z=y3.heap.size:=⟨_,rfl⟩;have Wy:=HX3.out;rw [<- hN,<- hf] at Wy;rw [<- hN,<- hf];have mW:jGj W0.heap.size W0 y4:=Wy.aM;have jx1:=hid Wy;clear hN hf Wy HX3;refine hK.out _ _ (fun _ _=>mW) (fun hH2=>?_);clear hK KQ hH;refine aL ?_;clear hH2;intro hH;refine fH (i:=10) rfl (by kernel_rfl) (fun KQ hK=>?_);refine nV ?_;clear hK KQ hH;refine Om (by kernel_rfl) ?_ _;have R0:Hid (Rk y4 i rs (.slice none 0 0) (.int .i64 1) y4):=⟨0,[],Nat.zero_le _,rfl,aF.nil _ _ _ _⟩;go_wp2
 go_loopw [4,5] (fun v vi wr=>Rk y4 i rs v vi wr) (fun _ vi _=>nk-(intOf vi).toNat)
 case atStart=>exact R0.out
 case round=>
  clear R0;obtain ⟨j,rows,hj,rfl,hrow⟩:=hrel;obtain ⟨ds,hds⟩:∃ ds,ds=((rs.take j).map (fB mI i)).map Nd.d:=⟨_,rfl⟩;rw [<- hds] at hrow;obtain ⟨m,hm⟩:∃ m,m=ds.length:=⟨_,rfl⟩;have Wz:m=j:=by rw [hm,hds,jDx,jDx,List.length_take];omega
  obtain ⟨av,cv,rfl,-,-⟩:=hrow.cap hm.symm;have jB8:m<=900000:=by have:=uy.out;omega
  have HMJ:=hid Wz;have HM:=hid hm.symm;have mZ:=hid hds;have bg:=hid hrow;have HB:=hid (mW.trans (hrow.aM.mono mW.size));have HKH:=hid (jx1.out.below hrow.aM);have jB9:=(CX.out wr HB.out).2.1;have hj9:j<=900000:=by have:=uy.out;omega
  clear hrow hm hds Wz;by_cases hlt:j+1<nk
  ·obtain ⟨y,hy⟩:∃ y,rs[j]?=some y:=⟨_,List.getElem?_eq_getElem (by have:=uy.out;omega)⟩;have hsn:(rs.take (j+1)).map (fB mI i)=(rs.take j).map (fB mI i)++[fB mI i y]:=jg _ _ _ _ hy;have Fy:=ZB.out y (List.mem_of_getElem? hy);have hro:fB mI i y=aJ jU [] (gN mI i.data.toList y.kids):=rfl;rw [hro] at hsn;obtain ⟨yk,Cq,yi,yt,yd,Cr,AQ,sN,lY⟩:=y;obtain ⟨g1,off1,yvc,yvp,yvl,yvk,hgo,hok,hbl,hc,hR⟩:=Gr (k:=j+1) HS2.out (by rw [List.getElem?_cons_succ];exact hy);obtain ⟨rfl,rfl⟩:ga=g1/\off=off1:=by have h:=hgo;simp at h;exact h
   obtain ⟨Oo,Oq,Ot,rfl⟩:=Rd.au hR.at_.cls
   obtain ⟨Ou,Ov,Ow,rfl⟩:=Rd.au hR.at_.aD
   obtain ⟨yM,yN,yO,rfl⟩:=Rd.au hR.line;obtain ⟨JY,JZ,J3,rfl⟩:=Rd.au hR.kids;have CY:Hid (∀ w':jG9,jGj W0.heap.size W0 w'->dh w' ga (off+(j+1)*11) yk Cq yi yt yd Cr AQ.id (.slice Oo Oq Ot) (.slice Ou Ov Ow) (.slice yM yN yO) (.slice JY JZ J3)):=fun w' hb=>hc.at2 (hb.block ga hbl)
   have NC:Hid (∀ w':jG9,jGj W0.heap.size W0 w'->Calls Tryz.prog 185 #[.agg #[.int .i64 yk,.int .i64 Cq,.string yi,.string yt,.string yd,.string Cr,.string AQ.id,.slice Oo Oq Ot,.slice Ou Ov Ow,.slice yM yN yO,.slice JY JZ J3],.string i,.string ⟨#[116,100]⟩] w' (qc w' (aJ jU [] (gN mI i.data.toList lY)))):=fun w' hb=>
    Gs yk Cq yi yt yd Cr AQ sN lY _ _ _ _ mI i w' (eP.sM hR (fun b (hb':b<S) hlt=>⟨by show b<w'.heap.size;have:=hb.size;omega,hb.block b (by omega)⟩)) Fy.1 Fy.2.1 Fy.2.2
   have gV:=hid (show ((rs.take (j+1)).map (fB mI i)).map Nd.d=ds++[(aJ jU [] (gN mI i.data.toList lY)).d] by rw [hsn,List.map_append,mZ.out];rfl);have t7:(((j+1:Nat):Int))<(nk:Int):=by omega
   have t8:(0:Int)<=(j:Int)+1:=by omega
   clear hok hbl hc hR hsn Fy hy hro hgo;go_upto_region 6 with (fail)
   refine Je 11 (fun w'=>jGj W0.heap.size W0 w') (by kernel_rfl) HB.out.drew ?_;intro hH;refine eY 0 rfl (by kernel_rfl) hH (by rfl) (by intro wv hSw;obtain ⟨e2,e10,-⟩:=CX.out wv hSw;obtain ⟨c0,c1,c2,c3,c4,c5,c6,c7,c8,c9,c10⟩:=CY.out wv hSw;go_simp;try with_reducible rfl) ?_;refine eY 1 rfl (by kernel_rfl) hH (by rfl) (by intro wv hSw;obtain ⟨e2,e10,-⟩:=CX.out wv hSw;obtain ⟨c0,c1,c2,c3,c4,c5,c6,c7,c8,c9,c10⟩:=CY.out wv hSw;go_simp;try with_reducible rfl) ?_;refine eY 2 rfl (by kernel_rfl) hH (by rfl) (by intro wv hSw;obtain ⟨e2,e10,-⟩:=CX.out wv hSw;obtain ⟨c0,c1,c2,c3,c4,c5,c6,c7,c8,c9,c10⟩:=CY.out wv hSw;go_simp;try with_reducible rfl) ?_;refine eY 3 rfl (by kernel_rfl) hH (by rfl) (by intro wv hSw;obtain ⟨e2,e10,-⟩:=CX.out wv hSw;obtain ⟨c0,c1,c2,c3,c4,c5,c6,c7,c8,c9,c10⟩:=CY.out wv hSw;go_simp;try with_reducible rfl) ?_;refine eY 4 rfl (by kernel_rfl) hH (by rfl) (by intro wv hSw;obtain ⟨e2,e10,-⟩:=CX.out wv hSw;obtain ⟨c0,c1,c2,c3,c4,c5,c6,c7,c8,c9,c10⟩:=CY.out wv hSw;go_simp;try with_reducible rfl) ?_;refine eY 5 rfl (by kernel_rfl) hH (by rfl) (by intro wv hSw;obtain ⟨e2,e10,-⟩:=CX.out wv hSw;obtain ⟨c0,c1,c2,c3,c4,c5,c6,c7,c8,c9,c10⟩:=CY.out wv hSw;go_simp;try with_reducible rfl) ?_;refine eY 6 rfl (by kernel_rfl) hH (by rfl) (by intro wv hSw;obtain ⟨e2,e10,-⟩:=CX.out wv hSw;obtain ⟨c0,c1,c2,c3,c4,c5,c6,c7,c8,c9,c10⟩:=CY.out wv hSw;go_simp;try with_reducible rfl) ?_;refine eY 7 rfl (by kernel_rfl) hH (by rfl) (by intro wv hSw;obtain ⟨e2,e10,-⟩:=CX.out wv hSw;obtain ⟨c0,c1,c2,c3,c4,c5,c6,c7,c8,c9,c10⟩:=CY.out wv hSw;go_simp;try with_reducible rfl) ?_;obtain ⟨y0,hy0⟩:∃ y0,y0=wr.drew:=⟨_,rfl⟩;have MG:jGj wr.heap.size wr y0:=by rw [hy0];exact (jD7 _ _).drew
   rw [<- hy0] at hH;rw [<- hy0];clear hy0;have pE:jGj W0.heap.size W0 y0:=hH;refine Gv ?_;intro KQ hK;go_at_call 185
   (with_reducible refine (NC.out y0 pE).mono ?_)
   rintro e y5 ⟨va,vk,he,hR,hb⟩;obtain ⟨aA,nA,cA,rfl⟩:=Rd.au hR.at_
   obtain ⟨aK,nK,cK,rfl⟩:=Rd.au hR.ks;refine MF ?_;intro he;subst he;have Gw:jGj wr.heap.size wr y5:=MG.trans (hb.mono MG.size);have B1:jGj W0.heap.size W0 y5:=HB.out.trans (Gw.mono HB.out.size);have XD:=hid (show Rd (fun b=>False\/wr.heap.size<=b) y5 (aJ jU [] (gN mI i.data.toList lY)).d [.string jU,.string ⟨#[]⟩,.slice aA nA cA,.slice aK nK cK] from (Nd.dJ jU ⟨#[]⟩ hR).weaken (fun b hb=>.inr (Nat.le_trans MG.size hb)));have U3:=hid (bg.out.below Gw);clear hb hR;refine hK.out _ _ (fun _ _=>B1) (fun hH2=>?_);clear hK KQ hH;refine aL ?_;clear hH2;intro hH;refine Co ?_;intro KQ hK;refine hK.out _ _ (fun _ _=>B1.alloc B1.size _) (fun hH2=>?_);clear hK KQ hH;refine aL ?_;clear hH2;intro hH;refine fH (i:=10) rfl (by kernel_rfl) (fun KQ hK=>?_);refine lq rfl (.tmp 23) (.tmp 32) 28 rfl iN _ 80 Tryz.underlying28 qB fC fD fE rfl (by decide) U3.out (fun _=>False.elim) (aJ jU [] (gN mI i.data.toList lY)).d [.string jU,.string ⟨#[]⟩,.slice aA nA cA,.slice aK nK cK] XD.out rfl Fz HM.out (by omega) (by decide) rfl rfl ?_;intro a5 c5 w5 aX hg5;have B5:jGj W0.heap.size W0 w5:=mW.trans (aX.aM.mono mW.size);have HF:Hid (Rk y4 i rs (.slice a5 (m+1) c5) (.int .i64 ((j+1+1:Nat):Int)) w5):=⟨j+1,_,by have:=uy.out;omega,rfl,by rw [gV.out];exact aX⟩;clear aX hg5;refine hK.out _ _ (fun _ _=>B5) (fun hH2=>?_);clear hK KQ hH;refine aL ?_;clear hH2;intro hH;refine fH (i:=11) rfl (by kernel_rfl) (fun KQ hK=>?_);refine nV ?_;clear hK KQ hH;refine Om (by kernel_rfl) ?_ _;clear XD U3;exact gF
  ·have hje:j=rs.length:=by have:=uy.out;omega
   subst hje;have t7:¬ (((rs.length+1:Nat):Int))<(nk:Int):=by omega
   have HR2:=hid (show aF 35 4 (fun _=>False) wr.heap.size y4 ((rs.map (fB mI i)).map Nd.d) rows (.slice av m cv) wr by
    have h:=bg.out;rw [mZ.out,List.take_length] at h;exact h)
   have hml:m=rs.length:=HMJ.out;by_cases hm0:rs.length=0
   ·have hrs:rs=[]:=List.length_eq_zero_iff.1 hm0;have jkk:=hid (show Bq i (.mk xk MB xi xt xd MC ME Ww mY::rs)=aJ nT [] [aJ AJ [] [aJ jU [] (gN rT i.data.toList mY)]] by rw [HTN.out,HRO.out,hrs];rfl);have q8:¬ (0:Int)<(m:Int):=by omega
    have WA:=hid (show Rd (W0.heap.size<=·) wr (gD [aJ AJ [] [aJ jU [] (gN rT i.data.toList mY)]]) [.slice (some ⟨g,0,none⟩) 1 1] from HKH.out.bZ);clear hrs hml;have EC:=hid (nU ⟨#[116,97,98,108,101]⟩ none (some ⟨g,0,none⟩) 0 1 0 1 wr);go_wp2_with fail
    (with_reducible refine EC.out.mono ?_)
    rintro e w3 ⟨rfl,b3⟩;have BL:=hid (q01 HB.out b3);have HN3:=hid (show gZ (W0.heap.size<=·) w3 [] [aJ AJ [] [aJ jU [] (gN rT i.data.toList mY)]] (.slice none 0 0) (.slice (some ⟨g,0,none⟩) 1 1) from ⟨Rd.aC _ _ _,WA.out.bC b3⟩);obtain ⟨x0,x1,x2,x3,xf⟩:=qC (K1.out.below BL.out);obtain ⟨w9,dn⟩:∃ w9,w9=kX w3 (S+1) (.string ⟨#[116,97,98,108,101]⟩) (.string ⟨#[]⟩) (.slice none 0 0) (.slice (some ⟨g,0,none⟩) 1 1):=⟨_,rfl⟩;have hf:=vL ⟨#[116,97,98,108,101]⟩ ⟨#[]⟩ [] [aJ AJ [] [aJ jU [] (gN rT i.data.toList mY)]] AO.out Z0.out B0.out K1.out BL.out HN3.out;rw [<- dn] at hf;have yQ:=hid hf.1;have yR:=hid hf.2;clear hf b3 EC;have hw8:=dn;simp only [kX] at hw8;clear dn;go_wp2;refine qD ?_;intro r0 r1 r2 r3;exact bodyPost_ret (v:=.agg #[.string ⟨#[116,97,98,108,101]⟩,.string ⟨#[]⟩,.slice none 0 0,.slice (some ⟨g,0,none⟩) 1 1]) (by simp [results,Tryz.results145,go_sem,r0,r1,r2,r3]) rfl (by rw [jkk.out];exact yR.out)
   ·have jkk:=hid (show Bq i (.mk xk MB xi xt xd MC ME Ww mY::rs)=aJ nT [] [aJ AJ [] [aJ jU [] (gN rT i.data.toList mY)],aJ iV [] (rs.map (fB mI i))] by
     rw [HTN.out,HRO.out,if_neg (by rw [List.isEmpty_iff];intro h;exact hm0 (by rw [h];rfl))])
    have q8:(0:Int)<(m:Int):=by omega
    clear hml;have EB:=hid (nU ⟨#[116,98,111,100,121]⟩ none av 0 m 0 cv wr);go_wp2_with fail
    (with_reducible refine EB.out.mono ?_)
    rintro e w2 ⟨rfl,b2⟩;have BL2:=hid (q01 HB.out b2);have U2:=hid (HKH.out.below b2);have XD:=hid (show Rd (fun b=>False\/y4.heap.size<=b) w2 (aJ iV [] (rs.map (fB mI i))).d [.string ⟨#[116,98,111,100,121]⟩,.string ⟨#[]⟩,.slice none 0 0,.slice av m cv] from Nd.dJ ⟨#[116,98,111,100,121]⟩ ⟨#[]⟩ ⟨Rd.aC _ _ _,((HR2.out.below b2).bZ).weaken (fun b hb=>.inr hb)⟩);clear b2 EB;go_wp2_with (at_builtin;refine Oh (n:=1) rfl _ _ 28 rfl iN _ 80 Tryz.underlying28 qB fC fD fE rfl (by decide) U2.out (fun _=>False.elim) (aJ iV [] (rs.map (fB mI i))).d [.string ⟨#[116,98,111,100,121]⟩,.string ⟨#[]⟩,.slice none 0 0,.slice av m cv] XD.out rfl Fz rfl (by omega) (by decide) rfl rfl ?_)
    intro a6 c6 w6 dB hg6;have WA:=hid (show Rd (W0.heap.size<=·) w6 (gD [aJ AJ [] [aJ jU [] (gN rT i.data.toList mY)],aJ iV [] (rs.map (fB mI i))]) [.slice a6 2 c6] from dB.bZ);have B6:=hid dB.aM;clear dB hg6 XD U2;have EC:=hid (nU ⟨#[116,97,98,108,101]⟩ none a6 0 2 0 c6 w6);go_wp2_with fail
    (with_reducible refine EC.out.mono ?_)
    rintro e w3 ⟨rfl,b3⟩;have BL:=hid (q01 B6.out b3);have HN3:=hid (show gZ (W0.heap.size<=·) w3 [] [aJ AJ [] [aJ jU [] (gN rT i.data.toList mY)],aJ iV [] (rs.map (fB mI i))] (.slice none 0 0) (.slice a6 2 c6) from ⟨Rd.aC _ _ _,WA.out.bC b3⟩);obtain ⟨x0,x1,x2,x3,xf⟩:=qC (K1.out.below BL.out);obtain ⟨w9,dn⟩:∃ w9,w9=kX w3 (S+1) (.string ⟨#[116,97,98,108,101]⟩) (.string ⟨#[]⟩) (.slice none 0 0) (.slice a6 2 c6):=⟨_,rfl⟩;have hf:=vL ⟨#[116,97,98,108,101]⟩ ⟨#[]⟩ [] [aJ AJ [] [aJ jU [] (gN rT i.data.toList mY)],aJ iV [] (rs.map (fB mI i))] AO.out Z0.out B0.out K1.out BL.out HN3.out;rw [<- dn] at hf;have yQ:=hid hf.1;have yR:=hid hf.2;clear hf b3 EC;have hw8:=dn;simp only [kX] at hw8;clear dn;go_wp2;refine qD ?_;intro r0 r1 r2 r3;exact bodyPost_ret (v:=.agg #[.string ⟨#[116,97,98,108,101]⟩,.string ⟨#[]⟩,.slice none 0 0,.slice a6 2 c6]) (by simp [results,Tryz.results145,go_sem,r0,r1,r2,r3]) rfl (by rw [jkk.out];exact yR.out)
theorem Rm (lv:Int) (i t d ti:ByteArray) (at_:At) (li:List aj) (ks:List ah) (vc vp vl vk:Value) (w:jG9) (hR:eP (·<w.heap.size) w at_ li ks vc vp vl vk) (hT:TbR i ks) : Calls Tryz.prog 91 #[.agg #[.int .i64 10,.int .i64 lv,.string i,.string t,.string d,.string ti,.string at_.id,vc,vp,vl,vk]] w (aO w [Bq i ks]):=by
 obtain ⟨ac,nc,cc,rfl⟩:=Rd.au hR.at_.cls
 obtain ⟨ap,np,cp,rfl⟩:=Rd.au hR.at_.aD
 obtain ⟨al,nl,cl,rfl⟩:=Rd.au hR.line;obtain ⟨ak,nk,ck,rfl⟩:=Rd.au hR.kids;obtain ⟨S,hS⟩:∃ S,S=w.heap.size:=⟨_,rfl⟩;obtain ⟨W0,hW0⟩:∃ W0,W0=w.alloc (.cells #[.int .i64 10,.int .i64 lv,.string i,.string t,.string d,.string ti,.string at_.id,.slice ac nc cc,.slice ap np cp,.slice al nl cl,.slice ak nk ck] 48):=⟨_,rfl⟩;have k0:CB 48 S [.int .i64 10,.int .i64 lv,.string i,.string t,.string d,.string ti,.string at_.id,.slice ac nc cc,.slice ap np cp,.slice al nl cl,.slice ak nk ck] W0:=by rw [hW0,hS];exact CB.new _ _ w
 have b0:jGj w.heap.size w W0:=by rw [hW0];exact (jD7 _ _).alloc (jD8 _) _
 have RC:=hid (Rl 10 lv i t d ti at_ li ks (.slice ac nc cc) (.slice ap np cp) (.slice al nl cl) (.slice ak nk ck) W0 (eP.sM hR (fun b (hb':b<w.heap.size) hlt=>⟨by show b<W0.heap.size;have:=b0.size;omega,b0.block b hb'⟩)) hT);have e0:=k0.cell 0 _ rfl;have e1:=k0.cell 1 _ rfl;have e2:=k0.cell 2 _ rfl;have e3:=k0.cell 3 _ rfl;have e4:=k0.cell 4 _ rfl;have e5:=k0.cell 5 _ rfl;have e6:=k0.cell 6 _ rfl;have e7:=k0.cell 7 _ rfl;have e8:=k0.cell 8 _ rfl;have e9:=k0.cell 9 _ rfl;have e10:=k0.cell 10 _ rfl;have B0:=hid b0;obtain ⟨X,hX⟩:∃ X,X=Bq i ks:=⟨_,rfl⟩;rw [<- hX] at RC;rw [<- hX];obtain ⟨xn,xt,xa,mY⟩:=X;clear hR hT k0 b0 hX;go_enter Tryz.func91,Tryz.ntmps91;go_upto_region 27 with (fail)
 rw [<- hW0,<- hS];clear hW0 hS;go_wp2_with fail
 (with_reducible refine RC.out.mono ?_)
 rintro e w4 ⟨va,vk,he,hR,hb⟩;obtain ⟨aA,nA,cA,rfl⟩:=Rd.au hR.at_
 obtain ⟨aK,nK,cK,rfl⟩:=Rd.au hR.ks;have he:e=.returned (.agg #[.string xn,.string xt,.slice aA nA cA,.slice aK nK cK]):=he;subst he;have BL:=hid (q01 B0.out hb);have HF:=hid (aF.JX BL.out ((Nd.dJ xn xt hR).weaken (fun b hb=>Nat.le_trans B0.out.size hb)));clear hb hR RC;go_wp2;go_ret;exact ⟨_,_,rfl,HF.out⟩
open Go.RowKit
theorem WC (n:Nat):aW (iE n)=false:=by
 unfold aW iE;refine decide_eq_false fun e=>?_
 rw [Lib.decDigits] at e;split at e<;>simp at e
theorem J4 (k lv:Int) (i t d ti:ByteArray) (at_:At) (li:List aj) (ks:List ah) (vc vp vl vk:Value) (w:jG9) (hR:eP (·<w.heap.size) w at_ li ks vc vp vl vk) (hw:(ah.mk k lv i t d ti at_ li ks).yG) (hl:k≠10->ig w ks vk) : Calls Tryz.prog 91 #[.agg #[.int .i64 k,.int .i64 lv,.string i,.string t,.string d,.string ti,.string at_.id,vc,vp,vl,vk]] w (aO w (ah.mk k lv i t d ti at_ li ks).mK):=by
 rw [ah.yG] at hw;obtain ⟨hs,hv,hT,hi,⟨g1,g2,g3,g4⟩,-⟩:=hw;rcases (by omega:k=1\/k=2\/k=3\/k=4\/k=5\/k=6\/k=7\/k=8\/k=9\/k=10\/k=13\/k=14\/k=15) with rfl | rfl | rfl | rfl | rfl | rfl | rfl | rfl | rfl | rfl | rfl | rfl | rfl
 ·rw [ah.mK];exact WG lv i t d ti at_ li ks vc vp vl vk w hR hs (hl (by decide))
 ·obtain ⟨n,rfl⟩:∃ n:Nat,lv=(n:Int):=⟨lv.toNat,by have:=hv (by decide);omega⟩;rw [ah.mK];exact WH n i t d ti at_ li ks vc vp vl vk w hR hs (hl (by decide)) n rfl (by have:=hv (by decide);omega)
 ·by_cases he:aW i=true
  ·have h:=Rn lv i t d ti at_ li ks vc vp vl vk w hR hs (hl (by decide)) he
   rw [ah.mK,he];exact h
  ·have he:aW i=false:=by simpa using he
   have h:=Ro lv i t d ti at_ li ks vc vp vl vk w hR hs (hl (by decide)) he
   rw [ah.mK,he];exact h
 ·rw [ah.mK];exact WI lv i t d ti at_ li ks vc vp vl vk w hR hs (hl (by decide))
 ·rw [ah.mK];exact WJ lv i t d ti at_ li ks vc vp vl vk w hR hs (hl (by decide))
 ·rw [ah.mK];exact WK lv i t d ti at_ li ks vc vp vl vk w hR hs (hl (by decide))
 ·rw [ah.mK];exact WL lv i t d ti at_ li ks vc vp vl vk w hR hs (hl (by decide))
 ·by_cases h1:lv=1
  ·have h:=Rp lv i t d ti at_ li ks vc vp vl vk w hR hs (hl (by decide)) h1
   rw [ah.mK,h1] at *;exact h
  ·obtain ⟨n,rfl⟩:∃ n:Nat,lv=(n:Int):=⟨lv.toNat,by have:=hv (by decide);omega⟩;have h:=Rq n i t d ti at_ li ks vc vp vl vk w hR hs (hl (by decide)) n rfl (by have:=hv (by decide);omega) h1
   rw [ah.mK];have e:(if (n:Int)=1 then [] else [⟨Ct,iE (n:Int).toNat⟩]:List Pr)=[⟨Ct,iE n⟩]:=by rw [if_neg h1];rfl
   show Calls _ _ _ _ (aO w [aJ WM (if (n:Int)=1 then [] else [⟨Ct,iE (n:Int).toNat⟩]) (ah.aV ks)]);have es:bU Ct (iE n)=[⟨Ct,iE n⟩]:=by unfold bU;rw [if_neg (by rw [WC];decide)]
   rw [es] at h;rw [e];exact h
 ·rw [ah.mK];exact WO lv i t d ti at_ li ks vc vp vl vk w hR hs (hl (by decide))
 ·rw [ah.mK];exact Rm lv i t d ti at_ li ks vc vp vl vk w hR (hT rfl)
 ·rw [ah.mK];exact Rs lv i t d ti at_ li ks vc vp vl vk w hR hs (hl (by decide)) (hi rfl)
 ·rw [ah.mK];exact Cu 14 lv i t d ti at_ li ks vc vp vl vk w hR (by decide)
 ·rw [ah.mK];exact Cu 15 lv i t d ti at_ li ks vc vp vl vk w hR (by decide)
def RiR (w:jG9) (l:List ah) (v vi:Value) (wr:jG9):Prop:=
 ∃ (k:Nat) (rows:List (List Value)),k<=l.length/\vi=.int .i64 k/\aF 35 4 (fun _=>False) wr.heap.size w ((ah.aV (l.take k)).map Nd.d) rows v wr
theorem yT (n:Nat):∀ (l:List ah) (v:Value) (w:jG9),ah.aY l<=n->n<=900000->Rd (·<w.heap.size) w (nN l) [v]->ah.kU l -> Calls Tryz.prog 46 #[v] w (aO w (ah.aV l)):=by
 induction n using Nat.strongRecOn with
 | _ n ih=>
  intro l v w hn hnm hrd hwk;obtain ⟨iN,qB,fC,fD,fE⟩:=info_parts gY;obtain ⟨ak,ck,hvk,hs⟩:=Rd.ay hrd;obtain ⟨nk,hnk⟩:∃ nk,nk=l.length:=⟨_,rfl⟩;obtain rfl:v=.slice ak nk ck:=by rw [hnk];simpa using hvk
  refine MH ?_;intro hcap hmx;have JW:nk<=900000:=by have:=ah.fF l;omega
  have HS2:=hid hs;have uy:=hid hnk;have HWK:=hid (ah.yH l hwk);have IH:=hid ih;have Rt:=hid (And.intro hn hnm);have R0:Hid (RiR w l (.slice none 0 0) (.int .i64 0) w):=⟨0,[],Nat.zero_le _,rfl,aF.nil _ _ _ _⟩;clear hrd hvk hs hnk hwk ih hn hnm;go_enter Tryz.func46,Tryz.ntmps46;go_wp2
  go_loopw [3,4] (fun v vi wr=>RiR w l v vi wr) (fun _ vi _=>nk-(intOf vi).toNat)
  case atStart=>exact R0.out
  case round=>
   clear R0;obtain ⟨j,rows,hj,rfl,hrow⟩:=hrel;obtain ⟨ds,hds⟩:∃ ds,ds=(ah.aV (l.take j)).map Nd.d:=⟨_,rfl⟩;rw [<- hds] at hrow;obtain ⟨m,hm⟩:∃ m,m=ds.length:=⟨_,rfl⟩;have Wz:m<=1000000:=by exact ZE
   obtain ⟨av,cv,rfl,-,-⟩:=hrow.cap hm.symm;have HM:=hid hm.symm;have mZ:=hid hds.symm;have bg:=hid hrow;clear hrow hm hds;by_cases hlt:j<nk
   ·refine ZF ?_;intro y hy hsn Qi hsz;have hyl:y.mK.length<=1:=by
     have h:=nW [y];rw [ah.aV,ah.aV,List.append_nil] at h;simpa using h
    obtain ⟨yk,Cq,yi,yt,yd,Cr,AQ,sN,lY⟩:=y;obtain ⟨ga,off,vc,vp,vl,vk,rfl,hok,hbl,hc,hR⟩:=Gr HS2.out hy;obtain ⟨c0,c1,c2,c3,c4,c5,c6,c7,c8,c9,c10⟩:=hc.at2 (w':=wr) (bg.out.aM.block ga hok);obtain ⟨Oo,Oq,Ot,rfl⟩:=Rd.au hR.at_.cls
    obtain ⟨Ou,Ov,Ow,rfl⟩:=Rd.au hR.at_.aD
    obtain ⟨yM,yN,yO,rfl⟩:=Rd.au hR.line;obtain ⟨JY,JZ,J3,rfl⟩:=Rd.au hR.kids;have Ru:eP (·<wr.heap.size) wr AQ sN lY (.slice Oo Oq Ot) (.slice Ou Ov Ow) (.slice yM yN yO) (.slice JY JZ J3):=eP.sM hR (fun b (hb:b<w.heap.size) hlt=>⟨by show b<wr.heap.size;have:=bg.out.aM.size;omega,bg.out.aM.block b hb⟩);have hw2:=Qi;rw [ah.yG] at hw2;obtain ⟨N,hN⟩:∃ N,N=(ah.mk yk Cq yi yt yd Cr AQ sN lY).mK:=⟨_,rfl⟩;have hcall:=J4 yk Cq yi yt yd Cr AQ sN lY _ _ _ _ wr Ru Qi (fun h10 W hW=>IH.out (ah.aY lY) (by rw [ah.sz] at hsz;have:=Rt.out;omega) lY _ W (jD8 _) (by rw [ah.sz] at hsz;have:=Rt.out;omega) (Rd.keep (w:=wr) (w':=W) (ok:=(·<wr.heap.size)) (fun b (hb:b<wr.heap.size) hlt=>⟨by show b<W.heap.size;have:=hW.size;omega,hW.block b hb⟩) _ _ Ru.kids) (hw2.2.2.2.2.2 h10));rw [<- hN] at hcall hsn hyl;have gV:=hid (show (ah.aV (l.take (j+1))).map Nd.d=ds++N.map Nd.d by rw [hsn,List.map_append,mZ.out]);have ZG:=hid hcall;obtain ⟨m2,hm2⟩:∃ m2,m2=(N.map Nd.d).length:=⟨_,rfl⟩;have jx2:m2<=1:=by rw [hm2,jDx];exact hyl
    have HM2:=hid hm2.symm;clear hsn hcall Ru hw2 Qi hsz hN hok hbl hc hR hy hm2 hyl;go_wp2_with fail
    (with_reducible refine ZG.out.mono ?_)
    rintro e w2 ⟨aZ,v2,rfl,hrow2⟩;obtain ⟨a2,n2,c2',rfl⟩:=hrow2.slice3;have U2:=hid (bg.out.below hrow2.aM);have XD:=hid (show Rd (fun b=>False\/wr.heap.size<=b) w2 (.sl 4 (N.map Nd.d)) [.slice a2 n2 c2'] from hrow2.bZ.weaken (fun b hb=>.inr hb));clear ZG hrow2 c0 c1 c2 c3 c4 c5 c6 c7 c8 c9 c10;go_wp2_with (at_builtin;refine iK rfl _ _ 28 rfl iN _ 80 Tryz.underlying28 qB fC fD fE rfl (by decide) U2.out (fun _=>False.elim) _ XD.out (fun rs ok' h=>Er N rs ok' _ h) HM.out HM2.out (by omega) (by decide) rfl rfl ?_)
    intro a' c' rows' w5 hrow hg5;have HF:Hid (RiR w l (.slice a' (m+m2) c') (.int .i64 ((j+1:Nat):Int)) w5):=⟨j+1,_,by have:=uy.out;omega,rfl,by rw [gV.out];exact hrow⟩;clear hrow hg5 XD U2 bg;exact gF
   ·exact ZH
end Go.Proofs.YtkfnkeflalcphaaGreatDoor

