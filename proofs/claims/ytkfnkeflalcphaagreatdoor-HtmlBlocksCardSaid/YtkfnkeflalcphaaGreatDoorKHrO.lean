/- Contract of publisherref34.one, given that of nodes at the Kids. -/
import Derived.Test.YtkfnkeflalcphaaGreatDoorKHrJ
set_option maxHeartbeats 4000000
set_option maxRecDepth 100000
open Go.Lib (hid)
namespace Go.Proofs.YtkfnkeflalcphaaGreatDoor
open Go renaming World->jG9
open Go.RowKit.Below renaming refl->jD7
open Nat renaming le_trans->jD9
open List renaming map_append->jE8
open Go.RowKit
set_option linter.unusedVariables false
set_option linter.unusedSimpArgs false
def zh (w:World) (ks:List aj) (vk:Value):Prop:=∀ W:World,Below w.heap.size w W->Calls Tryz.prog 142 #[vk] W (aO W (dQ ks))
theorem aF.aD (ps:List Pr) (ok:Nat->Prop) (w:World) (hn:0<ps.length) (hm:ps.length<=1000):aF 61 2 ok (w.heap.size+1) w (ps.map Pr.d) (ps.map fun p=>[.string p.key,.string p.val]) (.slice (some ⟨w.heap.size,0,none⟩) ps.length ps.length) (w.alloc (.cells (ps.map fun p=>[Value.string p.key,.string p.val]).flatten.toArray 61)):=by
 have hs:(w.alloc (.cells (ps.map fun p=>[Value.string p.key,.string p.val]).flatten.toArray 61)).heap.size=w.heap.size+1:=World.size_alloc _ _;have hfl:(ps.map fun p=>[Value.string p.key,.string p.val]).flatten.length=ps.length*2:=by rw [kZ 2 _ (by simp),List.length_map]
 refine ⟨?_,?_,by simp,(jD7 _ _).alloc (Nat.le_refl _) _,?_,by omega,by omega⟩
 ·rw [List.length_map];refine ⟨hfl,.inr ⟨w.heap.size,ps.length,_,rfl,Nat.le_refl _,heap_alloc_new w _,Nat.le_refl _,by unfold maxLen;omega,by simp only [List.size_toArray];exact hfl,?_⟩⟩;show List.take (ps.length*2) _=_;rw [List.take_of_length_le (by simp only [List.toList_toArray];omega)]
 ·have gen:∀ l:List Pr,aR (fun b=>(ok b\/w.heap.size<=b)/\(Value.slice (some ⟨w.heap.size,0,none⟩) ps.length ps.length).ownBlock≠some b/\b<w.heap.size+1) (w.alloc (.cells (ps.map fun p=>[Value.string p.key,.string p.val]).flatten.toArray 61)) (l.map Pr.d) (l.map fun p=>[Value.string p.key,.string p.val]):=by
   intro l;induction l with
   | nil=>exact aR.none
   | cons p l ih=>exact aR.cons (Pr.dJ _ _ p) ih
  exact gen ps
 ·intro g hg;have e1:w.heap.size=g:=by simpa [Value.ownBlock] using hg
  omega
theorem qW {ok:Nat->Prop} {w:World} {d:D} {cs:List Value} (h:Rd ok w d cs) (o:Obj):Rd ok (w.alloc o) d cs:=Rd.keep (fun b h1 h2=>⟨h1,Below.heap_alloc w o b h2⟩) _ _ h
def zn (k:Int):Prop:=∀ (t d ti:ByteArray) (at_:At) (ar:List ByteArray) (ci:List Ci) (ks:List aj) (vc vp va vi vk:Value) (w:World),qV (·<w.heap.size) w at_ ar ci ks vc vp va vi vk->(aj.mk k t d ti at_ ar ci ks).small->zh w ks vk->(∀ c∈at_.cls,aW c=false) ->
 Calls Tryz.prog 183 #[.agg #[.int .i64 k,.string t,.string d,.string ti,.string at_.id,vc,vp,va,vi,vk]] w (qc w (aj.mk k t d ti at_ ar ci ks).nd)
theorem mO{P Q:Prop}(q:Q)(h:Nonempty Q->P:=by
 intro qQ;have cO:=hid hs;have FH:=hid hcf;have hst:t.size<=300:=by rw [aj.small] at hs;exact hs.1
 revert cO FH hst;exact qQ.elim fun x=>x):P:=h ⟨q⟩
theorem jl8:zn 2:=by
 intro t d ti at_ ar ci ks vc vp va vi vk w hR hs hl hcf
 have E:Hid ((aj.mk 2 t d ti at_ ar ci ks).nd=Cm J6):=by show _=_;rw [aj.nd];rfl
 rw [E.out];obtain ⟨ac,nc,cc,ap,np,cp,aa,na,ca,ai,ni,mM,ak,nk,ck,S,W0,rfl,rfl,rfl,rfl,rfl,HS,HW0,e0,SX,dR,HR,Z0,B0,K1⟩:=dH (.int .i64 2) t d ti hR hl;refine mO ?_;intro cO FH hst;clear hcf hR hs hl E;go_enter Tryz.func183,Tryz.ntmps183;go_upto_region 3 with (fail)
 refine bK ?_;have BL:Hid (Below W0.heap.size W0 W0):=jD7 _ _;obtain ⟨w9,hw8,r0,r1,r2,r3,HP,x0,x1,x2,x3,xf⟩:=dP ⟨#[]⟩ ⟨#[32]⟩ [] [] HS Z0 B0 K1 BL ⟨Rd.aC _ _ _,Rd.aC _ _ _⟩;go_wp2;rw [<- hw8];exact bodyPost_ret (v:=.agg #[.string ⟨#[]⟩,.string ⟨#[32]⟩,(.slice none 0 0),(.slice none 0 0)]) (by simp [results,Tryz.results183,go_sem,r0,r1,r2,r3]) rfl HP.out
theorem Sl (k:Int) (t d ti:ByteArray) (at_:At) (ar:List ByteArray) (ci:List Ci) (ks:List aj) (vc vp va vi vk:Value) (w:World) (hR:qV (·<w.heap.size) w at_ ar ci ks vc vp va vi vk) (hs:(aj.mk k t d ti at_ ar ci ks).small) (hl:zh w ks vk) (hcf:∀ c∈at_.cls,aW c=false) (hk:k≠2/\k≠3/\k≠4/\k≠5/\k≠6/\k≠7/\k≠8/\k≠9/\k≠10/\k≠11/\k≠12/\k≠16) : Calls Tryz.prog 183 #[.agg #[.int .i64 k,.string t,.string d,.string ti,.string at_.id,vc,vp,va,vi,vk]] w (qc w (aj.mk k t d ti at_ ar ci ks).nd):=by
 refine ja9 ?_;intro E;obtain ⟨ac,nc,cc,ap,np,cp,aa,na,ca,ai,ni,mM,ak,nk,ck,S,W0,rfl,rfl,rfl,rfl,rfl,HS,HW0,e0,SX,dR,HR,Z0,B0,K1⟩:=dH (.int .i64 k) t d ti hR hl;have cO:=hid hs;have FH:=hid hcf;refine jaj ?_;intro hst q2 q3 q4 q5 q6 q7 q8 q9 q10 q11 q12 q16;clear hk;clear hcf hR hs hl E;go_enter Tryz.func183,Tryz.ntmps183;go_upto_region 28 with (fail)
 refine bK ?_;have BL:Hid (Below W0.heap.size W0 W0):=jD7 _ _;have g1:=(SX.out W0 (jD7 _ _)).1;obtain ⟨w9,hw8,r0,r1,r2,r3,HP,x0,x1,x2,x3,xf⟩:=dP ⟨#[]⟩ t [] [] HS Z0 B0 K1 BL ⟨Rd.aC _ _ _,Rd.aC _ _ _⟩;go_wp2;rw [<- hw8];exact bodyPost_ret (v:=.agg #[.string ⟨#[]⟩,.string t,(.slice none 0 0),(.slice none 0 0)]) (by simp [results,Tryz.results183,go_sem,r0,r1,r2,r3]) rfl HP.out
theorem jl9:zn 3:=by
 intro t d ti at_ ar ci ks vc vp va vi vk w hR hs hl hcf
 have E:Hid ((aj.mk 3 t d ti at_ ar ci ks).nd=aJ nBr [] []):=by show _=_;rw [aj.nd];rfl
 rw [E.out];obtain ⟨ac,nc,cc,ap,np,cp,aa,na,ca,ai,ni,mM,ak,nk,ck,S,W0,rfl,rfl,rfl,rfl,rfl,HS,HW0,e0,SX,dR,HR,Z0,B0,K1⟩:=dH (.int .i64 3) t d ti hR hl;refine mO ?_;intro cO FH hst;clear hcf hR hs hl E;go_enter Tryz.func183,Tryz.ntmps183;go_upto_region 5 with (fail)
 refine bK ?_;have EC:=hid (nU ⟨#[98,114]⟩ none none 0 0 0 0 W0);have B4:Hid (Below W0.heap.size W0 W0):=jD7 _ _;go_wp2_with fail
 (with_reducible refine EC.out.mono ?_)
 rintro e w5 ⟨rfl,b5⟩;have BL:=hid (q01 B4.out b5);clear b5;obtain ⟨w9,hw8,r0,r1,r2,r3,HP,x0,x1,x2,x3,xf⟩:=dP ⟨#[98,114]⟩ ⟨#[]⟩ [] [] HS Z0 B0 K1 BL ⟨Rd.aC _ _ _,Rd.aC _ _ _⟩;go_wp2;rw [<- hw8];exact bodyPost_ret (v:=.agg #[.string ⟨#[98,114]⟩,.string ⟨#[]⟩,(.slice none 0 0),(.slice none 0 0)]) (by simp [results,Tryz.results183,go_sem,r0,r1,r2,r3]) rfl HP.out
theorem jlj:zn 4:=by
 intro t d ti at_ ar ci ks vc vp va vi vk w hR hs hl hcf
 have E:Hid ((aj.mk 4 t d ti at_ ar ci ks).nd=aJ dK [] (bI t)):=by show _=_;rw [aj.nd];rfl
 rw [E.out];obtain ⟨ac,nc,cc,ap,np,cp,aa,na,ca,ai,ni,mM,ak,nk,ck,S,W0,rfl,rfl,rfl,rfl,rfl,HS,HW0,e0,SX,dR,HR,Z0,B0,K1⟩:=dH (.int .i64 4) t d ti hR hl;refine mO ?_;intro cO FH hst;clear hcf hR hs hl E;go_enter Tryz.func183,Tryz.ntmps183;go_upto_region 7 with (fail)
 refine bK ?_;have DC:=hid (W9 t W0);have g1:=(SX.out W0 (jD7 _ _)).1;go_wp2_with fail
 (with_reducible refine DC.out.mono ?_)
 rintro e w4 ⟨bD,v4,rfl,hrow4⟩;obtain ⟨a4,n4,c4,rfl⟩:=hrow4.slice3;have b4:=hrow4.aM;have B4:=hid (q01 (jD7 W0.heap.size W0) b4);have bV:=hid (show Rd (W0.heap.size<=·) w4 (gD (bI t)) [.slice a4 n4 c4] from hrow4.bZ.weaken (fun b hb=>jD9 ((jD7 W0.heap.size W0)).size hb));have EC:=hid (nU ⟨#[99,111,100,101]⟩ none a4 0 n4 0 c4 w4);clear b4 hrow4 DC g1;go_wp2_with fail
 (with_reducible refine EC.out.mono ?_)
 rintro e w5 ⟨rfl,b5⟩;have BL:=hid (q01 B4.out b5);have HN:=hid (show gZ (W0.heap.size<=·) w5 [] (bI t) (.slice none 0 0) (.slice a4 n4 c4) from ⟨Rd.aC _ _ _,bV.out.bC b5⟩);clear b5 bV EC;obtain ⟨w9,hw8,r0,r1,r2,r3,HP,x0,x1,x2,x3,xf⟩:=dP ⟨#[99,111,100,101]⟩ ⟨#[]⟩ [] (bI t) HS Z0 B0 K1 BL HN.out;go_wp2;rw [<- hw8];exact bodyPost_ret (v:=.agg #[.string ⟨#[99,111,100,101]⟩,.string ⟨#[]⟩,(.slice none 0 0),(.slice a4 n4 c4)]) (by simp [results,Tryz.results183,go_sem,r0,r1,r2,r3]) rfl HP.out
theorem Sm{P Q:Prop}(q:Q)(h:Nonempty Q->P:=by
 intro qQ;have BL:=hid (q01 B4.out b5);have HN:=hid (show gZ (W0.heap.size<=·) w5 [] (dQ ks) (.slice none 0 0) (.slice a4 n4 c4) from ⟨Rd.aC _ _ _,bV.out.bC b5⟩);revert BL HN;exact qQ.elim fun x=>x):P:=h ⟨q⟩
theorem Sn{P Q:Prop}(q:Q)(h:Nonempty Q->P:=by
 intro qQ;have b4:=hrow4.aM;have B4:=hid b4;have bV:=hid (show Rd (W0.heap.size<=·) w4 (gD (dQ ks)) [.slice a4 n4 c4] from hrow4.bZ);revert b4 B4 bV;exact qQ.elim fun x=>x):P:=h ⟨q⟩
theorem jlk:zn 6:=by
 intro t d ti at_ ar ci ks vc vp va vi vk w hR hs hl hcf
 have E:Hid ((aj.mk 6 t d ti at_ ar ci ks).nd=aJ nEm [] (dQ ks)):=by show _=_;rw [aj.nd];rfl
 rw [E.out];obtain ⟨ac,nc,cc,ap,np,cp,aa,na,ca,ai,ni,mM,ak,nk,ck,S,W0,rfl,rfl,rfl,rfl,rfl,HS,HW0,e0,SX,dR,HR,Z0,B0,K1⟩:=dH (.int .i64 6) t d ti hR hl;refine mO ?_;intro cO FH hst;clear hcf hR hs hl E;go_enter Tryz.func183,Tryz.ntmps183;go_upto_region 11 with (fail)
 refine bK ?_;have LC:=hid (dR.out W0 (jD7 _ _));have g9:=(SX.out W0 (jD7 _ _)).2.2.2.2.2.2;go_wp2_with fail
 (with_reducible refine LC.out.mono ?_)
 rintro e w4 ⟨bD,v4,rfl,hrow4⟩;obtain ⟨a4,n4,c4,rfl⟩:=hrow4.slice3;refine Sn ?_;intro b4 B4 bV;have EC:=hid (nU ⟨#[101,109]⟩ none a4 0 n4 0 c4 w4);clear b4 hrow4 LC g9;go_wp2_with fail
 (with_reducible refine EC.out.mono ?_)
 rintro e w5 ⟨rfl,b5⟩;refine Sm ?_;intro BL HN;clear b5 bV EC;obtain ⟨w9,hw8,r0,r1,r2,r3,HP,x0,x1,x2,x3,xf⟩:=dP ⟨#[101,109]⟩ ⟨#[]⟩ [] (dQ ks) HS Z0 B0 K1 BL HN.out;go_wp2;rw [<- hw8];exact bodyPost_ret (v:=.agg #[.string ⟨#[101,109]⟩,.string ⟨#[]⟩,(.slice none 0 0),(.slice a4 n4 c4)]) (by simp [results,Tryz.results183,go_sem,r0,r1,r2,r3]) rfl HP.out
theorem jlq:zn 7:=by
 intro t d ti at_ ar ci ks vc vp va vi vk w hR hs hl hcf
 have E:Hid ((aj.mk 7 t d ti at_ ar ci ks).nd=aJ EG [] (dQ ks)):=by show _=_;rw [aj.nd];rfl
 rw [E.out];obtain ⟨ac,nc,cc,ap,np,cp,aa,na,ca,ai,ni,mM,ak,nk,ck,S,W0,rfl,rfl,rfl,rfl,rfl,HS,HW0,e0,SX,dR,HR,Z0,B0,K1⟩:=dH (.int .i64 7) t d ti hR hl;refine mO ?_;intro cO FH hst;clear hcf hR hs hl E;go_enter Tryz.func183,Tryz.ntmps183;go_upto_region 13 with (fail)
 refine bK ?_;have LC:=hid (dR.out W0 (jD7 _ _));have g9:=(SX.out W0 (jD7 _ _)).2.2.2.2.2.2;go_wp2_with fail
 (with_reducible refine LC.out.mono ?_)
 rintro e w4 ⟨bD,v4,rfl,hrow4⟩;obtain ⟨a4,n4,c4,rfl⟩:=hrow4.slice3;refine Sn ?_;intro b4 B4 bV;have EC:=hid (nU ⟨#[115,116,114,111,110,103]⟩ none a4 0 n4 0 c4 w4);clear b4 hrow4 LC g9;go_wp2_with fail
 (with_reducible refine EC.out.mono ?_)
 rintro e w5 ⟨rfl,b5⟩;refine Sm ?_;intro BL HN;clear b5 bV EC;obtain ⟨w9,hw8,r0,r1,r2,r3,HP,x0,x1,x2,x3,xf⟩:=dP ⟨#[115,116,114,111,110,103]⟩ ⟨#[]⟩ [] (dQ ks) HS Z0 B0 K1 BL HN.out;go_wp2;rw [<- hw8];exact bodyPost_ret (v:=.agg #[.string ⟨#[115,116,114,111,110,103]⟩,.string ⟨#[]⟩,(.slice none 0 0),(.slice a4 n4 c4)]) (by simp [results,Tryz.results183,go_sem,r0,r1,r2,r3]) rfl HP.out
theorem jlx:zn 8:=by
 intro t d ti at_ ar ci ks vc vp va vi vk w hR hs hl hcf
 have E:Hid ((aj.mk 8 t d ti at_ ar ci ks).nd=aJ nS [] (dQ ks)):=by show _=_;rw [aj.nd];rfl
 rw [E.out];obtain ⟨ac,nc,cc,ap,np,cp,aa,na,ca,ai,ni,mM,ak,nk,ck,S,W0,rfl,rfl,rfl,rfl,rfl,HS,HW0,e0,SX,dR,HR,Z0,B0,K1⟩:=dH (.int .i64 8) t d ti hR hl;refine mO ?_;intro cO FH hst;clear hcf hR hs hl E;go_enter Tryz.func183,Tryz.ntmps183;go_upto_region 15 with (fail)
 refine bK ?_;have LC:=hid (dR.out W0 (jD7 _ _));have g9:=(SX.out W0 (jD7 _ _)).2.2.2.2.2.2;go_wp2_with fail
 (with_reducible refine LC.out.mono ?_)
 rintro e w4 ⟨bD,v4,rfl,hrow4⟩;obtain ⟨a4,n4,c4,rfl⟩:=hrow4.slice3;refine Sn ?_;intro b4 B4 bV;have EC:=hid (nU ⟨#[115]⟩ none a4 0 n4 0 c4 w4);clear b4 hrow4 LC g9;go_wp2_with fail
 (with_reducible refine EC.out.mono ?_)
 rintro e w5 ⟨rfl,b5⟩;refine Sm ?_;intro BL HN;clear b5 bV EC;obtain ⟨w9,hw8,r0,r1,r2,r3,HP,x0,x1,x2,x3,xf⟩:=dP ⟨#[115]⟩ ⟨#[]⟩ [] (dQ ks) HS Z0 B0 K1 BL HN.out;go_wp2;rw [<- hw8];exact bodyPost_ret (v:=.agg #[.string ⟨#[115]⟩,.string ⟨#[]⟩,(.slice none 0 0),(.slice a4 n4 c4)]) (by simp [results,Tryz.results183,go_sem,r0,r1,r2,r3]) rfl HP.out
theorem jlz:zn 5:=by
 intro t d ti at_ ar ci ks vc vp va vi vk w hR hs hl hcf
 have E:Hid ((aj.mk 5 t d ti at_ ar ci ks).nd=aJ C9 [⟨dx,oh⟩] (bI t)):=by show _=_;rw [aj.nd];rfl
 rw [E.out];obtain ⟨ac,nc,cc,ap,np,cp,aa,na,ca,ai,ni,mM,ak,nk,ck,S,W0,rfl,rfl,rfl,rfl,rfl,HS,HW0,e0,SX,dR,HR,Z0,B0,K1⟩:=dH (.int .i64 5) t d ti hR hl;refine mO ?_;intro cO FH hst;clear hcf hR hs hl E;go_enter Tryz.func183,Tryz.ntmps183;go_upto_region 9 with (fail)
 refine bK ?_;have PC:Hid (Calls Tryz.prog 49 #[.string ⟨#[99,108,97,115,115]⟩,.string ⟨#[109,97,116,104]⟩] W0.drew (aU W0.drew [⟨dx,oh⟩])):=Qm dx oh W0.drew;have SF:=hid (fun (w':World) (hb:Below W0.heap.size W0 w')=>((SX.out w' hb).1:w'.cell? ⟨S,1,none⟩=some (.string t)));have S0:=SF.out _ (jD7 _ _).drew;have Sq:Hid (∀ W:World,Calls Tryz.prog 98 #[.string t] W (aO W (bI t))):=fun W=>W9 t W
 go_wp2_with fail
 go_region_held3 (fun w'=>w'.cell? ⟨S,1,none⟩=some (.string t))
  (with_reducible assumption)
  (first
   | (go_simp;go_at_call 49;(with_reducible refine PC.out.mono ?_);rintro e w2 ⟨aZ,v2,rfl,hrow2⟩;obtain ⟨a2,c2,rfl,-,-⟩:=hrow2.cap (n:=1) rfl;have B2:=hid (((jD7 W0.heap.size W0).drew).trans hrow2.aM);have wR:Hid (Rd (W0.heap.size<=·) w2 (q32 [⟨dx,oh⟩]) [.slice a2 1 c2]):=hrow2.bZ;have S2:=SF.out w2 B2.out;have DC:=hid (Sq.out w2))
   | (go_simp;go_at_call 98;(with_reducible refine DC.out.mono ?_);rintro e w4 ⟨bD,v4,rfl,hrow4⟩;obtain ⟨a4,n4,c4,rfl⟩:=hrow4.slice3;have b4:=hrow4.aM;have B4:=hid (q01 B2.out b4);have bV:=hid (show Rd (W0.heap.size<=·) w4 (gD (bI t)) [.slice a4 n4 c4] from hrow4.bZ.weaken (fun b hb=>jD9 (B2.out).size hb));have jV:=hid (wR.out.bC b4);have S4:=SF.out w4 B4.out;have EC:=hid (nU ⟨#[115,112,97,110]⟩ a2 a4 1 n4 c2 c4 w4))
   | (go_simp;go_at_call 48;(with_reducible refine EC.out.mono ?_);rintro e w5 ⟨rfl,b5⟩;have BL:=hid (q01 B4.out b5);obtain ⟨x0,x1,x2,x3,xf⟩:=qC (K1.out.below BL.out);have HN:=hid (show gZ (W0.heap.size<=·) w5 [⟨dx,oh⟩] (bI t) (.slice a2 1 c2) (.slice a4 n4 c4) from ⟨jV.out.bC b5,bV.out.bC b5⟩);have S5:=SF.out w5 BL.out;have K6:=jH S w5 (.string ⟨#[115,112,97,110]⟩) (.string ⟨#[]⟩) (.slice a2 1 c2) (.slice a4 n4 c4);have S6:=K6 _ _ (SF.out w5 BL.out);clear K6))
 all_goals
  clear S0 S2 S4 S5 S6 hrow2 hrow4 b4 b5 EC;refine jak ?_;intro w9 dn hf;have HC:=hid hf.1;have HP:=hid hf.2;clear hf;refine lH ?_;clear dn;intro hw8 x0 x1 x2 x3 xf;go_wp2;refine lI ?_;intro r0 r1 r2 r3;exact bodyPost_ret (v:=.agg #[.string ⟨#[115,112,97,110]⟩,.string ⟨#[]⟩,(.slice a2 1 c2),(.slice a4 n4 c4)]) (by simp [results,Tryz.results183,go_sem,r0,r1,r2,r3]) rfl HP.out
theorem Xf:zn 16:=by
 intro t d ti at_ ar ci ks vc vp va vi vk w hR hs hl hcf
 have E:Hid ((aj.mk 16 t d ti at_ ar ci ks).nd=aJ nA [⟨kC,d⟩] (bI d)):=by show _=_;rw [aj.nd];rfl
 rw [E.out];obtain ⟨ac,nc,cc,ap,np,cp,aa,na,ca,ai,ni,mM,ak,nk,ck,S,W0,rfl,rfl,rfl,rfl,rfl,HS,HW0,e0,SX,dR,HR,Z0,B0,K1⟩:=dH (.int .i64 16) t d ti hR hl;refine mO ?_;intro cO FH hst;clear hcf hR hs hl E;go_enter Tryz.func183,Tryz.ntmps183;go_upto_region 27 with (fail)
 refine bK ?_;obtain ⟨wL,Zp⟩:∃ wL,wL=(W0.alloc (.cells #[.string ⟨#[104,114,101,102]⟩,.string d] 61)).drew:=⟨_,rfl⟩;have iZ:=hid (fQ W0 (.cells #[.string ⟨#[104,114,101,102]⟩,.string d] 61));have AT1:=hid (show Rd (W0.heap.size<=·) (W0.alloc (.cells #[.string ⟨#[104,114,101,102]⟩,.string d] 61)).drew (q32 [⟨kC,d⟩]) [.slice (some ⟨W0.heap.size,0,none⟩) 1 1] from Rd.keep (w:=W0.alloc (.cells #[.string ⟨#[104,114,101,102]⟩,.string d] 61)) (ok:=(W0.heap.size<=·)) (fun b hb _=>⟨hb,rfl⟩) _ _ (aF.aD [⟨kC,d⟩] (fun _=>False) W0 (by simp) (by simp)).bZ);have SF:=hid (fun (w':World) (hb:Below W0.heap.size W0 w')=>((SX.out w' hb).2.1:w'.cell? ⟨S,2,none⟩=some (.string d)));refine vS ?_;intro S0 S1;have DA:=hid (W9 d ((W0.alloc (.cells #[.string ⟨#[104,114,101,102]⟩,.string d] 61)).drew));have DB:=hid (W9 d W0.drew);clear Zp wL;go_wp2_with fail
 go_region_held3 (fun w'=>w'.cell? ⟨S,2,none⟩=some (.string d))
  (with_reducible assumption)
  (first
   | (go_simp;go_at_call 98;(with_reducible refine DA.out.mono ?_);rintro e w4 ⟨bD,v4,rfl,hrow4⟩;obtain ⟨a4,n4,c4,rfl⟩:=hrow4.slice3;have b4:=hrow4.aM;have B4:=hid (iZ.out.trans (b4.mono iZ.out.size));have bV:=hid (show Rd (W0.heap.size<=·) w4 (gD (bI d)) [.slice a4 n4 c4] from hrow4.bZ.weaken (fun b hb=>jD9 iZ.out.size hb));have jV:=hid (AT1.out.bC b4);have S4:=SF.out w4 B4.out;have EC:=hid (nU ⟨#[97]⟩ (some ⟨W0.heap.size,0,none⟩) a4 1 n4 1 c4 w4))
   | (go_simp;go_at_call 98;(with_reducible refine DB.out.mono ?_);rintro e w4 ⟨bD,v4,rfl,hrow4⟩;obtain ⟨a4,n4,c4,rfl⟩:=hrow4.slice3;have b4:=hrow4.aM;have B3:Hid (Below W0.heap.size W0 w4):=((jD7 W0.heap.size W0).drew).trans b4;have S3:=SF.out w4 B3.out;have B4:=hid (B3.out.alloc B3.out.size (.cells #[.string ⟨#[104,114,101,102]⟩,.string d] 61));have S4:=SF.out _ B4.out;have bV:=hid (show Rd (W0.heap.size<=·) (w4.alloc (.cells #[.string ⟨#[104,114,101,102]⟩,.string d] 61)) (gD (bI d)) [.slice a4 n4 c4] from qW hrow4.bZ _);have jV:=hid (show Rd (W0.heap.size<=·) (w4.alloc (.cells #[.string ⟨#[104,114,101,102]⟩,.string d] 61)) (q32 [⟨kC,d⟩]) [.slice (some ⟨w4.heap.size,0,none⟩) 1 1] from (aF.aD [⟨kC,d⟩] (fun _=>False) w4 (by simp) (by simp)).bZ.weaken (fun b hb=>jD9 B3.out.size hb));have EC:=hid (nU ⟨#[97]⟩ (some ⟨w4.heap.size,0,none⟩) a4 1 n4 1 c4 (w4.alloc (.cells #[.string ⟨#[104,114,101,102]⟩,.string d] 61))))
   | (go_simp;go_at_call 48;(with_reducible refine EC.out.mono ?_);rintro e w5 ⟨rfl,b5⟩;have BL:=hid (q01 B4.out b5);obtain ⟨x0,x1,x2,x3,xf⟩:=qC (K1.out.below BL.out);have HN:=hid (show gZ (W0.heap.size<=·) w5 [⟨kC,d⟩] (bI d) (.slice (some ⟨W0.heap.size,0,none⟩) 1 1) (.slice a4 n4 c4) from ⟨jV.out.bC b5,bV.out.bC b5⟩);have S5:=SF.out w5 BL.out;have K6:=jH S w5 (.string ⟨#[97]⟩) (.string ⟨#[]⟩) (.slice (some ⟨W0.heap.size,0,none⟩) 1 1) (.slice a4 n4 c4);have S6:=K6 _ _ (SF.out w5 BL.out);clear K6)
   | (go_simp;go_at_call 48;(with_reducible refine EC.out.mono ?_);rintro e w5 ⟨rfl,b5⟩;have BL:=hid (q01 B4.out b5);obtain ⟨x0,x1,x2,x3,xf⟩:=qC (K1.out.below BL.out);have HN:=hid (show gZ (W0.heap.size<=·) w5 [⟨kC,d⟩] (bI d) (.slice (some ⟨w4.heap.size,0,none⟩) 1 1) (.slice a4 n4 c4) from ⟨jV.out.bC b5,bV.out.bC b5⟩);have S5:=SF.out w5 BL.out;have K6:=jH S w5 (.string ⟨#[97]⟩) (.string ⟨#[]⟩) (.slice (some ⟨w4.heap.size,0,none⟩) 1 1) (.slice a4 n4 c4);have S6:=K6 _ _ (SF.out w5 BL.out);clear K6))
 all_goals
  clear hrow4 b4 b5 EC
  (first
   | (obtain ⟨w9,dn⟩:∃ w9,w9=kX w5 (S+1) (.string ⟨#[97]⟩) (.string ⟨#[]⟩) (.slice (some ⟨W0.heap.size,0,none⟩) 1 1) (.slice a4 n4 c4):=⟨_,rfl⟩;have hf:=vL ⟨#[97]⟩ ⟨#[]⟩ [⟨kC,d⟩] (bI d) HS.out Z0.out B0.out K1.out BL.out HN.out;rw [<- dn] at hf;have HC:=hid hf.1;have HP:=hid hf.2;clear hf;have hw8:=dn;simp only [kX] at hw8;clear dn ;obtain ⟨x0,x1,x2,x3,xf⟩:=qC (K1.out.below BL.out);go_wp2;rw [<- hw8];have r0:=HC.out.cell 0 _ rfl;have r1:=HC.out.cell 1 _ rfl;have r2:=HC.out.cell 2 _ rfl;have r3:=HC.out.cell 3 _ rfl;exact bodyPost_ret (v:=.agg #[.string ⟨#[97]⟩,.string ⟨#[]⟩,(.slice (some ⟨W0.heap.size,0,none⟩) 1 1),(.slice a4 n4 c4)]) (by simp [results,Tryz.results183,go_sem,r0,r1,r2,r3]) rfl HP.out)
   | (obtain ⟨w9,dn⟩:∃ w9,w9=kX w5 (S+1) (.string ⟨#[97]⟩) (.string ⟨#[]⟩) (.slice (some ⟨w4.heap.size,0,none⟩) 1 1) (.slice a4 n4 c4):=⟨_,rfl⟩;have hf:=vL ⟨#[97]⟩ ⟨#[]⟩ [⟨kC,d⟩] (bI d) HS.out Z0.out B0.out K1.out BL.out HN.out;rw [<- dn] at hf;have HC:=hid hf.1;have HP:=hid hf.2;clear hf;have hw8:=dn;simp only [kX] at hw8;clear dn ;obtain ⟨x0,x1,x2,x3,xf⟩:=qC (K1.out.below BL.out);go_wp2;rw [<- hw8];have r0:=HC.out.cell 0 _ rfl;have r1:=HC.out.cell 1 _ rfl;have r2:=HC.out.cell 2 _ rfl;have r3:=HC.out.cell 3 _ rfl;exact bodyPost_ret (v:=.agg #[.string ⟨#[97]⟩,.string ⟨#[]⟩,(.slice (some ⟨w4.heap.size,0,none⟩) 1 1),(.slice a4 n4 c4)]) (by simp [results,Tryz.results183,go_sem,r0,r1,r2,r3]) rfl HP.out))
theorem Xg:zn 12:=by
 intro t d ti at_ ar ci ks vc vp va vi vk w hR hs hl hcf
 have E:Hid ((aj.mk 12 t d ti at_ ar ci ks).nd=aJ nA [⟨kC,gH++t⟩,⟨dx,M9⟩] (bI t)):=by show _=_;rw [aj.nd];rfl
 rw [E.out];obtain ⟨ac,nc,cc,ap,np,cp,aa,na,ca,ai,ni,mM,ak,nk,ck,S,W0,rfl,rfl,rfl,rfl,rfl,HS,HW0,e0,SX,dR,HR,Z0,B0,K1⟩:=dH (.int .i64 12) t d ti hR hl;refine mO ?_;intro cO FH hst;clear hcf hR hs hl E;go_enter Tryz.func183,Tryz.ntmps183;go_upto_region 25 with (fail)
 refine bK ?_;refine jaq ?_;intro q5 q6 hadd;obtain ⟨wL,Zp⟩:∃ wL,wL=(W0.alloc (.cells #[.string ⟨#[104,114,101,102]⟩,.string (⟨#[35,110,111,116,101,45]⟩++t),.string ⟨#[99,108,97,115,115]⟩,.string ⟨#[110,111,116,101,114,101,102]⟩] 61)).drew:=⟨_,rfl⟩;have iZ:=hid (fQ W0 (.cells #[.string ⟨#[104,114,101,102]⟩,.string (⟨#[35,110,111,116,101,45]⟩++t),.string ⟨#[99,108,97,115,115]⟩,.string ⟨#[110,111,116,101,114,101,102]⟩] 61));have AT1:=hid (show Rd (W0.heap.size<=·) (W0.alloc (.cells #[.string ⟨#[104,114,101,102]⟩,.string (⟨#[35,110,111,116,101,45]⟩++t),.string ⟨#[99,108,97,115,115]⟩,.string ⟨#[110,111,116,101,114,101,102]⟩] 61)).drew (q32 [⟨kC,gH++t⟩,⟨dx,M9⟩]) [.slice (some ⟨W0.heap.size,0,none⟩) 2 2] from Rd.keep (w:=W0.alloc (.cells #[.string ⟨#[104,114,101,102]⟩,.string (⟨#[35,110,111,116,101,45]⟩++t),.string ⟨#[99,108,97,115,115]⟩,.string ⟨#[110,111,116,101,114,101,102]⟩] 61)) (ok:=(W0.heap.size<=·)) (fun b hb _=>⟨hb,rfl⟩) _ _ (aF.aD [⟨kC,gH++t⟩,⟨dx,M9⟩] (fun _=>False) W0 (by simp) (by simp)).bZ);have SF:=hid (fun (w':World) (hb:Below W0.heap.size W0 w')=>((SX.out w' hb).1:w'.cell? ⟨S,1,none⟩=some (.string t)));refine vS ?_;intro S0 S1;have DA:=hid (W9 t ((W0.alloc (.cells #[.string ⟨#[104,114,101,102]⟩,.string (⟨#[35,110,111,116,101,45]⟩++t),.string ⟨#[99,108,97,115,115]⟩,.string ⟨#[110,111,116,101,114,101,102]⟩] 61)).drew));have DB:=hid (W9 t W0.drew);clear Zp wL;go_wp2_with fail
 go_region_held3 (fun w'=>w'.cell? ⟨S,1,none⟩=some (.string t))
  (with_reducible assumption)
  (first
   | (go_simp;go_at_call 98;(with_reducible refine DA.out.mono ?_);rintro e w4 ⟨bD,v4,rfl,hrow4⟩;obtain ⟨a4,n4,c4,rfl⟩:=hrow4.slice3;have b4:=hrow4.aM;have B4:=hid (iZ.out.trans (b4.mono iZ.out.size));have bV:=hid (show Rd (W0.heap.size<=·) w4 (gD (bI t)) [.slice a4 n4 c4] from hrow4.bZ.weaken (fun b hb=>jD9 iZ.out.size hb));have jV:=hid (AT1.out.bC b4);have S4:=SF.out w4 B4.out;have EC:=hid (nU ⟨#[97]⟩ (some ⟨W0.heap.size,0,none⟩) a4 2 n4 2 c4 w4))
   | (go_simp;go_at_call 98;(with_reducible refine DB.out.mono ?_);rintro e w4 ⟨bD,v4,rfl,hrow4⟩;obtain ⟨a4,n4,c4,rfl⟩:=hrow4.slice3;have b4:=hrow4.aM;have B3:Hid (Below W0.heap.size W0 w4):=((jD7 W0.heap.size W0).drew).trans b4;have S3:=SF.out w4 B3.out;have B4:=hid (B3.out.alloc B3.out.size (.cells #[.string ⟨#[104,114,101,102]⟩,.string (⟨#[35,110,111,116,101,45]⟩++t),.string ⟨#[99,108,97,115,115]⟩,.string ⟨#[110,111,116,101,114,101,102]⟩] 61));have S4:=SF.out _ B4.out;have bV:=hid (show Rd (W0.heap.size<=·) (w4.alloc (.cells #[.string ⟨#[104,114,101,102]⟩,.string (⟨#[35,110,111,116,101,45]⟩++t),.string ⟨#[99,108,97,115,115]⟩,.string ⟨#[110,111,116,101,114,101,102]⟩] 61)) (gD (bI t)) [.slice a4 n4 c4] from qW hrow4.bZ _);have jV:=hid (show Rd (W0.heap.size<=·) (w4.alloc (.cells #[.string ⟨#[104,114,101,102]⟩,.string (⟨#[35,110,111,116,101,45]⟩++t),.string ⟨#[99,108,97,115,115]⟩,.string ⟨#[110,111,116,101,114,101,102]⟩] 61)) (q32 [⟨kC,gH++t⟩,⟨dx,M9⟩]) [.slice (some ⟨w4.heap.size,0,none⟩) 2 2] from (aF.aD [⟨kC,gH++t⟩,⟨dx,M9⟩] (fun _=>False) w4 (by simp) (by simp)).bZ.weaken (fun b hb=>jD9 B3.out.size hb));have EC:=hid (nU ⟨#[97]⟩ (some ⟨w4.heap.size,0,none⟩) a4 2 n4 2 c4 (w4.alloc (.cells #[.string ⟨#[104,114,101,102]⟩,.string (⟨#[35,110,111,116,101,45]⟩++t),.string ⟨#[99,108,97,115,115]⟩,.string ⟨#[110,111,116,101,114,101,102]⟩] 61))))
   | (go_simp;go_at_call 48;(with_reducible refine EC.out.mono ?_);rintro e w5 ⟨rfl,b5⟩;have BL:=hid (q01 B4.out b5);obtain ⟨x0,x1,x2,x3,xf⟩:=qC (K1.out.below BL.out);have HN:=hid (show gZ (W0.heap.size<=·) w5 [⟨kC,gH++t⟩,⟨dx,M9⟩] (bI t) (.slice (some ⟨W0.heap.size,0,none⟩) 2 2) (.slice a4 n4 c4) from ⟨jV.out.bC b5,bV.out.bC b5⟩);have S5:=SF.out w5 BL.out;have K6:=jH S w5 (.string ⟨#[97]⟩) (.string ⟨#[]⟩) (.slice (some ⟨W0.heap.size,0,none⟩) 2 2) (.slice a4 n4 c4);have S6:=K6 _ _ (SF.out w5 BL.out);clear K6)
   | (go_simp;go_at_call 48;(with_reducible refine EC.out.mono ?_);rintro e w5 ⟨rfl,b5⟩;have BL:=hid (q01 B4.out b5);obtain ⟨x0,x1,x2,x3,xf⟩:=qC (K1.out.below BL.out);have HN:=hid (show gZ (W0.heap.size<=·) w5 [⟨kC,gH++t⟩,⟨dx,M9⟩] (bI t) (.slice (some ⟨w4.heap.size,0,none⟩) 2 2) (.slice a4 n4 c4) from ⟨jV.out.bC b5,bV.out.bC b5⟩);have S5:=SF.out w5 BL.out;have K6:=jH S w5 (.string ⟨#[97]⟩) (.string ⟨#[]⟩) (.slice (some ⟨w4.heap.size,0,none⟩) 2 2) (.slice a4 n4 c4);have S6:=K6 _ _ (SF.out w5 BL.out);clear K6))
 all_goals
  clear hrow4 b4 b5 EC
  (first
   | (obtain ⟨w9,dn⟩:∃ w9,w9=kX w5 (S+1) (.string ⟨#[97]⟩) (.string ⟨#[]⟩) (.slice (some ⟨W0.heap.size,0,none⟩) 2 2) (.slice a4 n4 c4):=⟨_,rfl⟩;have hf:=vL ⟨#[97]⟩ ⟨#[]⟩ [⟨kC,gH++t⟩,⟨dx,M9⟩] (bI t) HS.out Z0.out B0.out K1.out BL.out HN.out;rw [<- dn] at hf;have HC:=hid hf.1;have HP:=hid hf.2;clear hf;have hw8:=dn;simp only [kX] at hw8;clear dn ;obtain ⟨x0,x1,x2,x3,xf⟩:=qC (K1.out.below BL.out);go_wp2;rw [<- hw8];have r0:=HC.out.cell 0 _ rfl;have r1:=HC.out.cell 1 _ rfl;have r2:=HC.out.cell 2 _ rfl;have r3:=HC.out.cell 3 _ rfl;exact bodyPost_ret (v:=.agg #[.string ⟨#[97]⟩,.string ⟨#[]⟩,(.slice (some ⟨W0.heap.size,0,none⟩) 2 2),(.slice a4 n4 c4)]) (by simp [results,Tryz.results183,go_sem,r0,r1,r2,r3]) rfl HP.out)
   | (obtain ⟨w9,dn⟩:∃ w9,w9=kX w5 (S+1) (.string ⟨#[97]⟩) (.string ⟨#[]⟩) (.slice (some ⟨w4.heap.size,0,none⟩) 2 2) (.slice a4 n4 c4):=⟨_,rfl⟩;have hf:=vL ⟨#[97]⟩ ⟨#[]⟩ [⟨kC,gH++t⟩,⟨dx,M9⟩] (bI t) HS.out Z0.out B0.out K1.out BL.out HN.out;rw [<- dn] at hf;have HC:=hid hf.1;have HP:=hid hf.2;clear hf;have hw8:=dn;simp only [kX] at hw8;clear dn ;obtain ⟨x0,x1,x2,x3,xf⟩:=qC (K1.out.below BL.out);go_wp2;rw [<- hw8];have r0:=HC.out.cell 0 _ rfl;have r1:=HC.out.cell 1 _ rfl;have r2:=HC.out.cell 2 _ rfl;have r3:=HC.out.cell 3 _ rfl;exact bodyPost_ret (v:=.agg #[.string ⟨#[97]⟩,.string ⟨#[]⟩,(.slice (some ⟨w4.heap.size,0,none⟩) 2 2),(.slice a4 n4 c4)]) (by simp [results,Tryz.results183,go_sem,r0,r1,r2,r3]) rfl HP.out))
theorem jax{P Q:Prop}(q:Q)(h:Nonempty Q->P:=by
 intro qQ;have hsc:at_.cls.length<=100/\∀ c∈at_.cls,c.size<=1000:=⟨by have h:=(uL cO.out).1;rwa [List.nil_append] at h,fun c hc=>(uL cO.out).2 c (by rwa [List.nil_append])⟩
 revert hsc;exact qQ.elim fun x=>x):P:=h ⟨q⟩
theorem Xh:zn 11:=by
 intro t d ti at_ ar ci ks vc vp va vi vk w hR hs hl hcf
 have E:Hid ((aj.mk 11 t d ti at_ ar ci ks).nd=aJ C9 (eT at_ []) (dQ ks)):=by show _=_;rw [aj.nd];rfl
 rw [E.out];obtain ⟨ac,nc,cc,ap,np,cp,aa,na,ca,ai,ni,mM,ak,nk,ck,S,W0,rfl,rfl,rfl,rfl,rfl,HS,HW0,e0,SX,dR,HR,Z0,B0,K1⟩:=dH (.int .i64 11) t d ti hR hl;refine mO ?_;intro cO FH hst;clear hcf hR hs hl E;go_enter Tryz.func183,Tryz.ntmps183;go_upto_region 23 with (fail)
 refine bK ?_;refine jax ?_;intro hsc;have AC:Hid (Calls Tryz.prog 144 #[.agg #[.string at_.id,.slice ac nc cc,.slice ap np cp],.string ⟨#[]⟩] W0.drew (aU W0.drew (eT at_ []))):=jF at_ ⟨#[]⟩ (.slice ac nc cc) (.slice ap np cp) W0.drew (Sr (by have:=Z0.out;omega) HR.out.at_) hsc.1 hsc.2 (by decide) FH.out
 have SF:=hid (fun (w':World) (hb:Below W0.heap.size W0 w')=>(⟨(SX.out w' hb).2.2.2.1,(SX.out w' hb).2.2.2.2.1,(SX.out w' hb).2.2.2.2.2.1,(SX.out w' hb).2.2.2.2.2.2⟩:w'.cell? ⟨S,4,none⟩=some (.string at_.id)/\w'.cell? ⟨S,5,none⟩=some (.slice ac nc cc)/\w'.cell? ⟨S,6,none⟩=some (.slice ap np cp)/\w'.cell? ⟨S,9,none⟩=some (.slice ak nk ck)));have S0:=SF.out _ (jD7 _ _).drew;clear hsc;go_wp2_with fail
 go_region_held3 (fun w'=>w'.cell? ⟨S,4,none⟩=some (.string at_.id)/\w'.cell? ⟨S,5,none⟩=some (.slice ac nc cc)/\w'.cell? ⟨S,6,none⟩=some (.slice ap np cp)/\w'.cell? ⟨S,9,none⟩=some (.slice ak nk ck))
  (with_reducible assumption)
  (first
   | (go_simp;go_at_call 144;(with_reducible refine AC.out.mono ?_);rintro e w3 ⟨dD,v3,rfl,hrow3⟩;obtain ⟨a3,n3,c3,rfl⟩:=hrow3.slice3;have B3:Hid (Below W0.heap.size W0 w3):=((jD7 W0.heap.size W0).drew).trans hrow3.aM;have xg:Hid (Rd (W0.heap.size<=·) w3 (q32 (eT at_ [])) [.slice a3 n3 c3]):=hrow3.bZ;have S3:=SF.out w3 B3.out;have LC:=hid (dR.out w3 B3.out))
   | (go_simp;go_at_call 142;(with_reducible refine LC.out.mono ?_);rintro e w4 ⟨bD,v4,rfl,hrow4⟩;obtain ⟨a4,n4,c4,rfl⟩:=hrow4.slice3;have b4:=hrow4.aM;have B4:=hid (q01 B3.out b4);have bV:=hid (show Rd (W0.heap.size<=·) w4 (gD (dQ ks)) [.slice a4 n4 c4] from hrow4.bZ.weaken (fun b hb=>jD9 B3.out.size hb));have jV:=hid (xg.out.bC b4);have S4:=SF.out w4 B4.out;have EC:=hid (nU ⟨#[115,112,97,110]⟩ a3 a4 n3 n4 c3 c4 w4))
   | (go_simp;go_at_call 48;(with_reducible refine EC.out.mono ?_);rintro e w5 ⟨rfl,b5⟩;have BL:=hid (q01 B4.out b5);obtain ⟨x0,x1,x2,x3,xf⟩:=qC (K1.out.below BL.out);have HN:=hid (show gZ (W0.heap.size<=·) w5 (eT at_ []) (dQ ks) (.slice a3 n3 c3) (.slice a4 n4 c4) from ⟨jV.out.bC b5,bV.out.bC b5⟩);have S5:=SF.out w5 BL.out;have K6:=jH S w5 (.string ⟨#[115,112,97,110]⟩) (.string ⟨#[]⟩) (.slice a3 n3 c3) (.slice a4 n4 c4);have S6:=And.imp (K6 _ _) (And.imp (K6 _ _) (And.imp (K6 _ _) (K6 _ _))) (SF.out w5 BL.out);clear K6))
 all_goals
  clear b5 EC hrow3 hrow4 b4 S0 S3 S4 S5 S6;refine jaz ?_;intro w9 dn hf;have HC:=hid hf.1;have HP:=hid hf.2;clear hf;refine lH ?_;clear dn;intro hw8 x0 x1 x2 x3 xf;go_wp2;refine lI ?_;intro r0 r1 r2 r3;exact bodyPost_ret (v:=.agg #[.string ⟨#[115,112,97,110]⟩,.string ⟨#[]⟩,(.slice a3 n3 c3),(.slice a4 n4 c4)]) (by simp [results,Tryz.results183,go_sem,r0,r1,r2,r3]) rfl HP.out
theorem jm0:zn 9:=by
 intro t d ti at_ ar ci ks vc vp va vi vk w hR hs hl hcf
 have E:Hid ((aj.mk 9 t d ti at_ ar ci ks).nd=aJ nA ([⟨kC,d⟩]++bU lS ti) (dQ ks)):=by show _=_;rw [aj.nd];rfl
 rw [E.out];obtain ⟨ac,nc,cc,ap,np,cp,aa,na,ca,ai,ni,mM,ak,nk,ck,S,W0,rfl,rfl,rfl,rfl,rfl,HS,HW0,e0,SX,dR,HR,Z0,B0,K1⟩:=dH (.int .i64 9) t d ti hR hl;refine mO ?_;intro cO FH hst;clear hcf hR hs hl E;go_enter Tryz.func183,Tryz.ntmps183;go_upto_region 17 with (fail)
 refine bK ?_;obtain ⟨iP,hiP,qg,qh,qj⟩:=info_parts kN;obtain ⟨m,hm⟩:∃ m,m=(List.map Pr.d (bU lS ti)).length:=⟨_,rfl⟩;have hm1:m<=1:=by rw [hm];unfold bU;split<;>simp
 have HM:=hid hm.symm;clear hm;have iZ:=hid (fQ W0 (.cells #[.string ⟨#[104,114,101,102]⟩,.string d] 61));have L1:=hid (show aF 61 2 (fun _=>False) (World.heap ((W0.alloc (.cells #[.string ⟨#[104,114,101,102]⟩,.string d] 61)).drew)).size W0 (List.map Pr.d [⟨kC,d⟩]) (List.map (fun (p:Pr)=>[Value.string p.key,.string p.val]) [⟨kC,d⟩]) (.slice (some ⟨W0.heap.size,0,none⟩) 1 1) (W0.alloc (.cells #[.string ⟨#[104,114,101,102]⟩,.string d] 61)).drew from (aF.aD [⟨kC,d⟩] (fun _=>False) W0 (by simp) (by simp)).drew.top);have SF:=hid (fun (w':World) (hb:Below W0.heap.size W0 w')=>(⟨(SX.out w' hb).2.1,(SX.out w' hb).2.2.1,(SX.out w' hb).2.2.2.2.2.2⟩:w'.cell? ⟨S,2,none⟩=some (.string d)/\w'.cell? ⟨S,3,none⟩=some (.string ti)/\w'.cell? ⟨S,9,none⟩=some (.slice ak nk ck)));refine vS ?_;intro S0 S1;have SA:Hid (Calls Tryz.prog 49 #[.string ⟨#[116,105,116,108,101]⟩,.string ti] ((W0.alloc (.cells #[.string ⟨#[104,114,101,102]⟩,.string d] 61)).drew) (aU ((W0.alloc (.cells #[.string ⟨#[104,114,101,102]⟩,.string d] 61)).drew) (bU lS ti))):=Qm lS ti _;have SB:Hid (Calls Tryz.prog 49 #[.string ⟨#[116,105,116,108,101]⟩,.string ti] W0.drew (aU W0.drew (bU lS ti))):=Qm lS ti _;go_wp2_with fail
 go_region_held3 (fun w'=>w'.cell? ⟨S,2,none⟩=some (.string d)/\w'.cell? ⟨S,3,none⟩=some (.string ti)/\w'.cell? ⟨S,9,none⟩=some (.slice ak nk ck))
  (with_reducible assumption)
  (first
   | (go_simp;go_at_call 49;(with_reducible refine SA.out.mono ?_);rintro e w2 ⟨aZ,v2,rfl,hrow2⟩;obtain ⟨a2,c2,rfl,-,-⟩:=hrow2.cap HM.out;have B2:=hid (iZ.out.trans (hrow2.aM.mono iZ.out.size));have LA:=hid (L1.out.below hrow2.aM);have XA:=hid (show Rd (fun b=>False\/(World.heap ((W0.alloc (.cells #[.string ⟨#[104,114,101,102]⟩,.string d] 61)).drew)).size<=b) w2 (.sl 2 (List.map Pr.d (bU lS ti))) [.slice a2 m c2] from hrow2.bZ.weaken (fun b hb=>.inr hb));have S2:=SF.out w2 B2.out)
   | (go_simp;go_at_call 49;(with_reducible refine SB.out.mono ?_);rintro e w2 ⟨aZ,v2,rfl,hrow2⟩;obtain ⟨a2,c2,rfl,-,-⟩:=hrow2.cap HM.out;have B2:Hid (Below W0.heap.size W0 w2):=((jD7 W0.heap.size W0).drew).trans hrow2.aM;have S2:=SF.out w2 B2.out;have B2a:=hid (B2.out.alloc B2.out.size (.cells #[.string ⟨#[104,114,101,102]⟩,.string d] 61));have S2a:=SF.out _ B2a.out;have LB:=hid (aF.aD [⟨kC,d⟩] (fun b=>W0.heap.size<=b/\b<w2.heap.size) w2 (by simp) (by simp));have XB:=hid (show Rd (fun b=>(W0.heap.size<=b/\b<w2.heap.size)\/w2.heap.size+1<=b) (w2.alloc (.cells #[.string ⟨#[104,114,101,102]⟩,.string d] 61)) (.sl 2 (List.map Pr.d (bU lS ti))) [.slice a2 m c2] from qW (Rd.weaken hrow2.bZ.inside (fun b hb=>.inl hb)) _))
   | (refine Cj (n:=1) (m:=m) rfl (.tmp 48) (.tmp 51) 24 rfl iP _ 32 Tryz.underlying24 hiP qg qh qj rfl (by decide) LA.out (fun _=>False.elim) (.slice a2 m c2) XA.out (fun rs ok' h=>lG (bU lS ti) rs ok' _ h) rfl HM.out (by omega) (by decide) rfl rfl ?_;intro a3 c3 dD w3 hrow3 hg3;have B3:Hid (Below W0.heap.size W0 w3):=hrow3.aM;have xg:=hid (show Rd (W0.heap.size<=·) w3 (q32 ([⟨kC,d⟩]++bU lS ti)) [.slice a3 (1+m) c3] from (by have h:=hrow3.bZ;rw [<- jE8] at h;exact h));have S3:=SF.out w3 B3.out;have LC:=hid (dR.out w3 B3.out))
   | (refine Cj (n:=1) (m:=m) rfl (.tmp 48) (.tmp 51) 24 rfl iP _ 32 Tryz.underlying24 hiP qg qh qj rfl (by decide) LB.out (fun b hb=>hb.2) (.slice a2 m c2) XB.out (fun rs ok' h=>lG (bU lS ti) rs ok' _ h) rfl HM.out (by omega) (by decide) rfl rfl ?_;intro a3 c3 dD w3 hrow3 hg3;have B3:=hid (B2.out.trans (hrow3.aM.mono B2.out.size));have xg:=hid (show Rd (W0.heap.size<=·) w3 (q32 ([⟨kC,d⟩]++bU lS ti)) [.slice a3 (1+m) c3] from (by have h:=hrow3.rd.weaken (ok':=(W0.heap.size<=·)) (fun b hb=>hb.elim (fun h=>h.1) (fun h=>jD9 B2.out.size h));rw [<- jE8] at h;exact h));have S3:=SF.out w3 B3.out;have LC:=hid (dR.out w3 B3.out))
   | (go_simp;go_at_call 142;(with_reducible refine LC.out.mono ?_);rintro e w4 ⟨bD,v4,rfl,hrow4⟩;obtain ⟨a4,n4,c4,rfl⟩:=hrow4.slice3;have b4:=hrow4.aM;have B4:=hid (q01 B3.out b4);have bV:=hid (show Rd (W0.heap.size<=·) w4 (gD (dQ ks)) [.slice a4 n4 c4] from hrow4.bZ.weaken (fun b hb=>jD9 B3.out.size hb));have jV:=hid (xg.out.bC b4);have S4:=SF.out w4 B4.out;have EC:=hid (nU ⟨#[97]⟩ a3 a4 (1+m) n4 c3 c4 w4))
   | (go_simp;go_at_call 48;(with_reducible refine EC.out.mono ?_);rintro e w5 ⟨rfl,b5⟩;have BL:=hid (q01 B4.out b5);obtain ⟨x0,x1,x2,x3,xf⟩:=qC (K1.out.below BL.out);have HN:=hid (show gZ (W0.heap.size<=·) w5 ([⟨kC,d⟩]++bU lS ti) (dQ ks) (.slice a3 (1+m) c3) (.slice a4 n4 c4) from ⟨jV.out.bC b5,bV.out.bC b5⟩);have S5:=SF.out w5 BL.out;have K6:=jH S w5 (.string ⟨#[97]⟩) (.string ⟨#[]⟩) (.slice a3 (1+m) c3) (.slice a4 n4 c4);have S6:=And.imp (K6 _ _) (And.imp (K6 _ _) (K6 _ _)) (SF.out w5 BL.out);clear K6))
 all_goals
  clear b5 EC hrow3 hrow4 b4 S0 S1 S3 S4 S5 S6 SA SB;obtain ⟨w9,dn⟩:∃ w9,w9=kX w5 (S+1) (.string ⟨#[97]⟩) (.string ⟨#[]⟩) (.slice a3 (1+m) c3) (.slice a4 n4 c4):=⟨_,rfl⟩;have hf:=vL ⟨#[97]⟩ ⟨#[]⟩ ([⟨kC,d⟩]++bU lS ti) (dQ ks) HS.out Z0.out B0.out K1.out BL.out HN.out;rw [<- dn] at hf;have HC:=hid hf.1;have HP:=hid hf.2;clear hf;refine lH ?_;clear dn;intro hw8 x0 x1 x2 x3 xf;go_wp2;refine lI ?_;intro r0 r1 r2 r3;exact bodyPost_ret (v:=.agg #[.string ⟨#[97]⟩,.string ⟨#[]⟩,(.slice a3 (1+m) c3),(.slice a4 n4 c4)]) (by simp [results,Tryz.results183,go_sem,r0,r1,r2,r3]) rfl HP.out
theorem Xi (t d ti:ByteArray) (at_:At) (ar:List ByteArray) (ci:List Ci) (ks:List aj) (vc vp va vi vk:Value) (w:World) (hR:qV (·<w.heap.size) w at_ ar ci ks vc vp va vi vk) (hs:(aj.mk (10:Int) t d ti at_ ar ci ks).small) (hl:zh w ks vk) (hcf:∀ c∈at_.cls,aW c=false) (hz:aj.aY ks<=1000000) : Calls Tryz.prog 183 #[.agg #[.int .i64 10,.string t,.string d,.string ti,.string at_.id,vc,vp,va,vi,vk]] w (qc w (aj.mk (10:Int) t d ti at_ ar ci ks).nd):=by
 refine jb0 ?_;intro E;obtain ⟨ac,nc,cc,ap,np,cp,aa,na,ca,ai,ni,mM,ak,nk,ck,S,W0,rfl,rfl,rfl,rfl,rfl,HS,HW0,e0,SX,dR,HR,Z0,B0,K1⟩:=dH (.int .i64 10) t d ti hR hl;refine mO ?_;intro cO FH hst;clear hcf hR hs hl E;go_enter Tryz.func183,Tryz.ntmps183;go_upto_region 19 with (fail)
 refine bK ?_;obtain ⟨iP,hiP,qg,qh,qj⟩:=info_parts kN;have hpl:(aj.aG ks).length<=1000000000:=by have h:=cO.out;rw [aj.small] at h;have:=aj.pI ks h.2.2.2.2.2.2.2.2;omega
 have PL:=hid (Kk _ ks (·<S) (.slice ak nk ck) W0.drew (Nat.le_refl _) (Rd.keep (w:=W0) (w':=W0.drew) (ok:=(·<S)) (fun b (hb:b<S) _=>⟨hb,rfl⟩) _ _ HR.out.kids) hpl);have iZ:=hid (fQ W0 (.cells #[.string ⟨#[115,114,99]⟩,.string d,.string ⟨#[97,108,116]⟩,.string ⟨(aj.aG ks).toArray⟩] 61));have L1:=hid (show aF 61 2 (fun _=>False) (World.heap ((W0.alloc (.cells #[.string ⟨#[115,114,99]⟩,.string d,.string ⟨#[97,108,116]⟩,.string ⟨(aj.aG ks).toArray⟩] 61)).drew)).size W0 (List.map Pr.d [⟨qX,d⟩,⟨qY,fI ks⟩]) (List.map (fun (p:Pr)=>[Value.string p.key,.string p.val]) [⟨qX,d⟩,⟨qY,fI ks⟩]) (.slice (some ⟨W0.heap.size,0,none⟩) 2 2) (W0.alloc (.cells #[.string ⟨#[115,114,99]⟩,.string d,.string ⟨#[97,108,116]⟩,.string ⟨(aj.aG ks).toArray⟩] 61)).drew from (aF.aD [⟨qX,d⟩,⟨qY,fI ks⟩] (fun _=>False) W0 (by simp) (by simp)).drew.top);have SF:=hid (fun (w':World) (hb:Below W0.heap.size W0 w')=>(⟨(SX.out w' hb).2.1,(SX.out w' hb).2.2.2.2.2.2⟩:w'.cell? ⟨S,2,none⟩=some (.string d)/\w'.cell? ⟨S,9,none⟩=some (.slice ak nk ck)));refine vS ?_;intro S0 S1;refine jax ?_;intro hsc;have HSC:=hid hsc;clear hpl hsc;go_wp2_with fail
 go_region_held3 (fun w'=>w'.cell? ⟨S,2,none⟩=some (.string d)/\w'.cell? ⟨S,9,none⟩=some (.slice ak nk ck))
  (with_reducible assumption)
  (first
   | (go_simp;go_at_call 220;(with_reducible refine PL.out.mono ?_);rintro e w' ⟨rfl,rfl⟩))
 all_goals
  obtain ⟨w1,hw1⟩:∃ w1,w1=(W0.alloc (.cells #[.string ⟨#[115,114,99]⟩,.string d,.string ⟨#[97,108,116]⟩,.string ⟨(aj.aG ks).toArray⟩] 61)).drew:=⟨_,rfl⟩;rw [<- hw1];rw [<- hw1] at iZ L1;clear hw1 S0 S1 PL;obtain ⟨m,hm⟩:∃ m,m=(List.map Pr.d (bU lS ti)).length:=⟨_,rfl⟩;have hm1:m<=1:=by rw [hm];unfold bU;split<;>simp
  have HM:=hid hm.symm;clear hm;obtain ⟨-,-,g3,g4,g5,g6,-⟩:=SX.out w1 iZ.out;have SM:Hid (Calls Tryz.prog 49 #[.string ⟨#[116,105,116,108,101]⟩,.string ti] w1 (aU w1 (bU lS ti))):=Qm lS ti w1;go_wp2_with fail
  (with_reducible refine SM.out.mono ?_)
  rintro e w2 ⟨aZ,v2,rfl,hrow2⟩;obtain ⟨a2,c2,rfl,-,-⟩:=hrow2.cap HM.out;have L2:=hid (L1.out.below hrow2.aM);have B2:=hid (iZ.out.trans (hrow2.aM.mono iZ.out.size));have X2:=hid (show Rd (fun b=>False\/w1.heap.size<=b) w2 (.sl 2 (List.map Pr.d (bU lS ti))) [.slice a2 m c2] from hrow2.bZ.weaken (fun b hb=>.inr hb));have O2:=hid (fun (rs:List (List Value)) (ok':Nat->Prop) h=>lG (bU lS ti) rs ok' w2 h);clear hrow2 SM L1 g3 g4 g5 g6;go_wp2_with (at_builtin;refine iK (n:=2) (m:=m) rfl _ _ 24 rfl iP _ 32 Tryz.underlying24 hiP qg qh qj rfl (by decide) L2.out (fun _=>False.elim) (.slice a2 m c2) X2.out O2.out rfl HM.out (by omega) (by decide) rfl rfl ?_)
  intro a3 c3 dD w3 hrow3 hg3;have B3:Hid (Below W0.heap.size W0 w3):=hrow3.aM;have U3:=hid hrow3;obtain ⟨-,-,-,g4,g5,g6,-⟩:=SX.out w3 B3.out;have AC:Hid (Calls Tryz.prog 144 #[.agg #[.string at_.id,.slice ac nc cc,.slice ap np cp],.string ⟨#[]⟩] w3 (aU w3 (eT at_ []))):=jF at_ ⟨#[]⟩ (.slice ac nc cc) (.slice ap np cp) w3 (zo HR.out.at_ B3.out (by have:=Z0.out;omega)) HSC.out.1 HSC.out.2 (by decide) FH.out
  have VX:Hid ((List.map Pr.d [⟨qX,d⟩,⟨qY,fI ks⟩]++List.map Pr.d (bU lS ti)).length=2+m):=by show _=_;rw [List.length_append,HM.out];rfl
  clear hrow3 hg3 L2 X2 O2;go_upto_region 21 with (fail)
  go_wp2_with fail
  (with_reducible refine AC.out.mono ?_)
  rintro e w4 ⟨bD,v4,rfl,hrow4⟩;obtain ⟨m4,Oc⟩:∃ m,m=(List.map Pr.d (eT at_ [])).length:=⟨_,rfl⟩;obtain ⟨a4,c4,rfl,-,-⟩:=hrow4.cap Oc.symm;have jxj:m4<=2:=by rw [Oc];unfold eT bU G5;split<;>split<;>simp
  have HM4:=hid Oc.symm;have b4:=hrow4.aM;have U4:=hid (U3.out.below b4);have X4:=hid (show Rd (fun b=>False\/w3.heap.size<=b) w4 (.sl 2 (List.map Pr.d (eT at_ []))) [.slice a4 m4 c4] from hrow4.bZ.weaken (fun b hb=>.inr hb));have O4:=hid (fun (rs:List (List Value)) (ok':Nat->Prop) h=>lG (eT at_ []) rs ok' w4 h);clear Oc hrow4 b4 g4 g5 g6 AC;go_wp2_with (at_builtin;refine iK (n:=2+m) (m:=m4) rfl _ _ 24 rfl iP _ 32 Tryz.underlying24 hiP qg qh qj rfl (by decide) U4.out (fun _=>False.elim) (.slice a4 m4 c4) X4.out O4.out VX.out HM4.out (by omega) (by decide) rfl rfl ?_)
  intro a5 c5 nY w5 aX hg5;have B5:Hid (Below W0.heap.size W0 w5):=aX.aM;have AT5:Hid (Rd (W0.heap.size<=·) w5 (q32 ([⟨qX,d⟩,⟨qY,fI ks⟩]++bU lS ti++eT at_ [])) [.slice a5 (2+m+m4) c5]):=by have h:=aX.bZ;show Rd _ _ (.sl 2 (List.map Pr.d _)) _;rw [jE8,jE8];exact h
  have EC:=hid (nU ⟨#[105,109,103]⟩ a5 none (2+m+m4) 0 c5 0 w5);clear aX hg5 U4 X4 O4 U3;go_wp2_with fail
  (with_reducible refine EC.out.mono ?_)
  rintro e w6 ⟨rfl,b6⟩;have BL:=hid (q01 B5.out b6);have HN:=hid (show gZ (W0.heap.size<=·) w6 ([⟨qX,d⟩,⟨qY,fI ks⟩]++bU lS ti++eT at_ []) [] (.slice a5 (2+m+m4) c5) (.slice none 0 0) from ⟨AT5.out.bC b6,Rd.aC _ _ _⟩);clear b6 EC AT5;obtain ⟨w9,dn⟩:∃ w9,w9=kX w6 (S+1) (.string ⟨#[105,109,103]⟩) (.string ⟨#[]⟩) (.slice a5 (2+m+m4) c5) (.slice none 0 0):=⟨_,rfl⟩;have hf:=vL ⟨#[105,109,103]⟩ ⟨#[]⟩ ([⟨qX,d⟩,⟨qY,fI ks⟩]++bU lS ti++eT at_ []) [] HS.out Z0.out B0.out K1.out BL.out HN.out;rw [<- dn] at hf;have HC:=hid hf.1;have HP:=hid hf.2;clear hf;refine lH ?_;clear dn;intro hw8 x0 x1 x2 x3 xf;go_wp2;refine lI ?_;intro r0 r1 r2 r3;exact bodyPost_ret (v:=.agg #[.string ⟨#[105,109,103]⟩,.string ⟨#[]⟩,(.slice a5 (2+m+m4) c5),(.slice none 0 0)]) (by simp [results,Tryz.results183,go_sem,r0,r1,r2,r3]) rfl HP.out
theorem Xb (k:Int) (t d ti:ByteArray) (at_:At) (ar:List ByteArray) (ci:List Ci) (ks:List aj) (vc vp va vi vk:Value) (w:World) (hR:qV (·<w.heap.size) w at_ ar ci ks vc vp va vi vk) (hs:(aj.mk k t d ti at_ ar ci ks).small) (hl:zh w ks vk) (hcf:∀ c∈at_.cls,aW c=false) (hz:aj.aY ks<=1000000) : Calls Tryz.prog 183 #[.agg #[.int .i64 k,.string t,.string d,.string ti,.string at_.id,vc,vp,va,vi,vk]] w (qc w (aj.mk k t d ti at_ ar ci ks).nd):=by
 by_cases h2:k=2
 ·subst h2;exact jl8 t d ti at_ ar ci ks vc vp va vi vk w hR hs hl hcf
 by_cases h3:k=3
 ·subst h3;exact jl9 t d ti at_ ar ci ks vc vp va vi vk w hR hs hl hcf
 by_cases h4:k=4
 ·subst h4;exact jlj t d ti at_ ar ci ks vc vp va vi vk w hR hs hl hcf
 by_cases h5:k=5
 ·subst h5;exact jlz t d ti at_ ar ci ks vc vp va vi vk w hR hs hl hcf
 by_cases h6:k=6
 ·subst h6;exact jlk t d ti at_ ar ci ks vc vp va vi vk w hR hs hl hcf
 by_cases h7:k=7
 ·subst h7;exact jlq t d ti at_ ar ci ks vc vp va vi vk w hR hs hl hcf
 by_cases h8:k=8
 ·subst h8;exact jlx t d ti at_ ar ci ks vc vp va vi vk w hR hs hl hcf
 by_cases h9:k=9
 ·subst h9;exact jm0 t d ti at_ ar ci ks vc vp va vi vk w hR hs hl hcf
 by_cases h10:k=10
 ·subst h10;exact Xi t d ti at_ ar ci ks vc vp va vi vk w hR hs hl hcf hz
 by_cases h11:k=11
 ·subst h11;exact Xh t d ti at_ ar ci ks vc vp va vi vk w hR hs hl hcf
 by_cases h12:k=12
 ·subst h12;exact Xg t d ti at_ ar ci ks vc vp va vi vk w hR hs hl hcf
 by_cases h16:k=16
 ·subst h16;exact Xf t d ti at_ ar ci ks vc vp va vi vk w hR hs hl hcf
 exact Sl k t d ti at_ ar ci ks vc vp va vi vk w hR hs hl hcf ⟨h2,h3,h4,h5,h6,h7,h8,h9,h10,h11,h12,h16⟩
end Go.Proofs.YtkfnkeflalcphaaGreatDoor

