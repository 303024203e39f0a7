/- Contracts of toc.shownEntry, of the tests of toc's lists. Contract of publisherref24.shown. -/
import Derived.Test.YtlbioncagkkkoaaGreatDoorKTcJ
import Derived.Test.YtlbioncagkkkoaaGreatDoorKRMergO
import Derived.Test.YtlbioncagkkkoaaGreatDoorKEnW
import Derived.Deep.CutBlock
import Derived.Deep.RegionHeld3
import Derived.Laws.Concat
set_option maxHeartbeats 8000000
set_option maxRecDepth 100000
namespace Go.Proofs.YtlbioncagkkkoaaGreatDoor
open Go.RowKit
set_option linter.unusedVariables false
set_option linter.unusedSimpArgs false
structure ShOk (x:En):Prop where
 sz:Inl.szL (q0z x)<=1000000
 bd:Inl.bdL (q0z x)
 tx:Inl.txBL (q0z x)
 id:x.id.size<=1000000
 txs:x.tx.size<=100000
 lb:Inl.bdL x.line
 ls:Inl.szL x.line<=1000000
def ShPost (w:World) (x:En) (e:Ending) (w':World):Prop:=
 ∃ vk,e=.returned (.agg #[.int .i64 9,.string ⟨#[]⟩,.string (hashB++x.id),.string ⟨#[]⟩,.string ⟨#[]⟩,.slice none 0 0,.slice none 0 0,.slice none 0 0,.slice none 0 0,vk])/\Rd (w.heap.size<=·) w' (q0w (Inl.mergeL (q0z x))) [vk]/\Below w.heap.size w w'
theorem tx_nil2 (ok:Nat->Prop) (w:World) (t:ByteArray):Rd ok w (txI t).d [.int .i64 1,.string t,.string ⟨#[]⟩,.string ⟨#[]⟩,.string ⟨#[]⟩,.slice none 0 0,.slice none 0 0,.slice none 0 0,.slice none 0 0,.slice none 0 0]:=
 Inl.mk_ 1 t ⟨#[]⟩ ⟨#[]⟩ (a:=at0) ⟨⟨Rd.nil_mk _ _ _,Rd.nil_mk _ _ _⟩,Rd.nil_mk _ _ _,Rd.nil_mk _ _ _,Rd.nil_mk _ _ _⟩
theorem one_inls2 (l:List Inl) (rs:List (List Value)) (ok:Nat->Prop) (w:World) (h:RdL ok w (l.map Inl.d) rs):∀ u∈rs.flatten,u.oneCell'=true:=by
 intro u hu
 obtain ⟨r,hr,hu⟩:=List.mem_flatten.1 hu
 obtain ⟨j,hj,rfl⟩:=List.mem_iff_getElem.1 hr
 have hj2:j<(l.map Inl.d).length:=by rw [<- h.len];exact hj
 obtain ⟨r',hr',hd⟩:=h.get j _ (List.getElem?_eq_getElem hj2)
 rw [List.getElem?_eq_getElem hj] at hr'
 obtain rfl:=Option.some.inj hr'
 rw [List.getElem_map] at hd
 generalize l[j]'(by simpa using hj2)=x at hd
 obtain ⟨k,t,d,ti,a,ar,ci,ks⟩:=x
 obtain ⟨vc,vp,va,vi,vk,he,hR⟩:=Inl.open_ hd
 obtain ⟨a1,n1,c1,rfl⟩:=Rd.sl_form hR.at_.cls
 obtain ⟨a2,n2,c2,rfl⟩:=Rd.sl_form hR.at_.prs
 obtain ⟨a3,n3,c3,rfl⟩:=Rd.sl_form hR.args
 obtain ⟨a4,n4,c4,rfl⟩:=Rd.sl_form hR.cites
 obtain ⟨a5,n5,c5,rfl⟩:=Rd.sl_form hR.kids
 rw [he] at hu
 exact q2c u hu
theorem shEntry_any (x:En) (vl vr:Value) (B:Nat) (w:World) (hR:EnR (·<B) w x.line x.refs vl vr) (hB:B<=w.heap.size) (hok:ShOk x) :
  Calls Tryz.prog 87 #[.agg #[.int .i64 x.lv,.string x.id,.string x.tx,vl,vr]] w (ShPost w x):=by
 obtain ⟨iI,hiI,hzI0,hzI1,hzI2⟩:=info_parts infoIn
 obtain ⟨al,nl,cl,rfl⟩:=Rd.sl_form hR.line
 obtain ⟨ar,nr,cr,rfl⟩:=Rd.sl_form hR.refs
 obtain ⟨S,hS⟩:∃ S,S=w.heap.size:=⟨_,rfl⟩
 obtain ⟨W0,hW0⟩:∃ W,W=(w.alloc (.cells #[.int .i64 x.lv,.string x.id,.string x.tx,.slice al nl cl,.slice ar nr cr] 42)).alloc (.cells #[.int .i64 0,.string ⟨#[]⟩,.string ⟨#[]⟩,.string ⟨#[]⟩,.string ⟨#[]⟩,.slice none 0 0,.slice none 0 0,.slice none 0 0,.slice none 0 0,.slice none 0 0] 47):=⟨_,rfl⟩
 have z0:W0.heap.size=S+2:=by rw [hW0,hS];simp
 have k0:CB 42 S [.int .i64 x.lv,.string x.id,.string x.tx,.slice al nl cl,.slice ar nr cr] W0:=by rw [hW0,hS];exact (CB.new _ _ w).below ((Below.refl _ _).alloc (Nat.le_refl _) _)
 have k1:PB (S+1) [.int .i64 0,.string ⟨#[]⟩,.string ⟨#[]⟩,.string ⟨#[]⟩,.string ⟨#[]⟩,.slice none 0 0,.slice none 0 0,.slice none 0 0,.slice none 0 0,.slice none 0 0] W0:=by
  have:=heap_alloc_new (w.alloc (.cells #[.int .i64 x.lv,.string x.id,.string x.tx,.slice al nl cl,.slice ar nr cr] 42)) (.cells #[.int .i64 0,.string ⟨#[]⟩,.string ⟨#[]⟩,.string ⟨#[]⟩,.string ⟨#[]⟩,.slice none 0 0,.slice none 0 0,.slice none 0 0,.slice none 0 0,.slice none 0 0] 47)
  rw [World.size_alloc] at this
  rw [hW0,hS];exact this
 have b0:Below S w W0:=by rw [hW0,hS];exact ((Below.refl _ _).alloc (Nat.le_refl _) _).alloc (by simp) _
 have HL:Hid (Rd (·<B) W0 (q0w x.line) [.slice al nl cl]):=hR.line.below (b0.mono (by rw [hS];exact hB))
 have HOK:=Lib.hid hok
 have HS:=Lib.hid hS
 have HW0:=Lib.hid hW0
 have K0:=Lib.hid k0
 have K1:=Lib.hid k1
 have B0:=Lib.hid b0
 have hBS:B<=S:=by rw [hS];exact hB
 obtain ⟨pre,hpre⟩:∃ pre,pre=(if q06 x.tx=true then [] else [txI (x.tx++⟨#[32]⟩)]):=⟨_,rfl⟩
 have HKIDS:Hid (q0z x=pre++x.line):=by show _=_;rw [hpre];rfl
 have HPRE:=Lib.hid hpre
 have hpl:(pre.map Inl.d).length<=1:=by rw [hpre];split<;>simp
 have q2:x.tx.toList.isEmpty=q06 x.tx:=by rw [Lib.toList_data,Bool.eq_iff_iff,List.isEmpty_iff,q06,decide_eq_true_iff]
 have htx:=hok.txs
 have hid:=hok.id
 have e2:=k0.cell 2 _ rfl
 have Z0:=Lib.hid z0
 clear hR hB hok hS hW0 k0 k1 b0 hpre z0
 obtain ⟨lv,id,tx,line,refs⟩:=x
 dsimp only at *
 go_enter Tryz.func87,Tryz.ntmps87
 go_upto_if 6 with (fail)
 rw [<- HS.out,<- HW0.out]
 go_cut [3] (fun v wx=>∃ rows,RowU 47 10 (fun _=>False) wx.heap.size W0 (pre.map Inl.d) rows v wx)
 case first=>
  by_cases hem:q06 tx=true
  ·obtain rfl:pre=[]:=by rw [HPRE.out,if_pos hem]
   have q4:(!q06 tx)=false:=by rw [hem];rfl
   rw [q4]
   go_wp2
   go_meet
   exact ⟨_,RowU.nil _ _ _ _⟩
  ·obtain rfl:pre=[txI (tx++⟨#[32]⟩)]:=by rw [HPRE.out,if_neg hem]
   have hem2:q06 tx=false:=by simpa using hem
   have q4:(!q06 tx)=true:=by rw [hem2];rfl
   have q3:tx.size+(⟨#[32]⟩:ByteArray).size<=9223372036854775807:=by have:(⟨#[32]⟩:ByteArray).size=1:=rfl;omega
   have RN:=Lib.hid (RowU.nil 47 10 (fun _=>False) W0)
   have HN0:Hid (([]:List D).length=0):=rfl
   rw [q4]
   clear hem hem2 q4
   go_wp2_with (at_builtin;apply q0p (T:=47) (k:=10) (w:=W0) (U:=W0.heap.size) (ok:=fun _=>False) (w0:=W0) (ds:=[]) (rows:=[]) (n:=0) (r:=[.int .i64 1,.string (tx++⟨#[32]⟩),.string ⟨#[]⟩,.string ⟨#[]⟩,.string ⟨#[]⟩,.slice none 0 0,.slice none 0 0,.slice none 0 0,.slice none 0 0,.slice none 0 0]) (s:=.tmp 7) (x:=.tmp 12) (t:=38) (bytes:=192) (ht:=Tryz.underlying38) (hi:=hiI) (hz:=hzI0) (hsize:=hzI1) (hby:=hzI2) (h:=RN.out) (d:=(txI (tx++⟨#[32]⟩)).d) (hx:=tx_nil2 _ _ _) (h1:=q2c) (hdn:=rfl))
   case hgd=>rfl
   case ho=>rfl
   case hzs=>rfl
   case hsz=>decide
   case hB=>exact fun _=>False.elim
   case hr=>rfl
   case hn=>omega
   case hb200=>decide
   case hs=>rfl
   case hxe=>rfl
   intro a' c' w9 hrow hg9
   have HROW:=Lib.hid hrow
   clear hrow hg9
   go_wp2
   go_meet
   exact ⟨_,HROW.out⟩
 case rest=>
  obtain ⟨rows,hrow⟩:=hcut
  obtain ⟨w1,hw1⟩:∃ w1:World,w1=wc:=⟨_,rfl⟩
  subst hw1
  obtain ⟨m,hm⟩:∃ m,m=(pre.map Inl.d).length:=⟨_,rfl⟩
  obtain ⟨av,cv,rfl,-,-⟩:=hrow.cap hm.symm
  have HROW:=Lib.hid hrow
  have hbel:=hrow.bel
  have K1':=Lib.hid (K0.out.below hbel)
  have Z1':=Lib.hid (K1.out.grown (q02 hbel))
  have hw1:=hbel.size
  have hz0:=Z0.out
  have BW1:=Lib.hid (B0.out.trans (hbel.mono (by omega)))
  have LC:=Lib.hid (tocLine_any 1000000 line B (.slice al nl cl) w1 HOK.out.ls (Nat.le_refl _) (HL.out.below (hbel.mono (by omega))) (by omega) HOK.out.lb)
  have e3:=K1'.out.cell 3 _ rfl
  rw [<- hm] at hpl
  have HDN:=Lib.hid hm.symm
  obtain ⟨me,hme⟩:∃ me,me=(line.map Inl.d).length:=⟨_,rfl⟩
  have hme2:me<=1000000:=by rw [hme,List.length_map];exact Nat.le_trans (Inl.len_le line) HOK.out.ls
  have HME:=Lib.hid hme.symm
  have hSz:S+2<=W0.heap.size:=Nat.le_of_eq hz0.symm
  clear hrow hbel K0 K1 HL hm hme e2 hz0
  go_wp2_with fail
  (with_reducible refine LC.out.mono ?_)
  rintro e w2 ⟨v2,rfl,hl2,b2⟩
  obtain ⟨a2,c2,hv2,hs2⟩:=Rd.sl_open hl2
  obtain rfl:v2=.slice a2 me c2:=by rw [HME.out] at hv2;simpa using hv2
  have U2:=Lib.hid (HROW.out.below b2)
  have HK2:=Lib.hid (show Rd (fun b=>False\/w1.heap.size<=b) w2 (.sl 10 (line.map Inl.d)) [.slice a2 me c2] from hl2.weaken (fun b hb=>.inr hb))
  have K2:=Lib.hid (K1'.out.below b2)
  have Z2:=Lib.hid (Z1'.out.grown (q02 b2))
  have BW2:=Lib.hid (BW1.out.trans (b2.mono (by have:=BW1.out.size;omega)))
  clear hl2 b2 LC hv2 hs2 e3 K1' Z1'
  go_wp2_with (at_builtin;refine wpList_puts rfl _ _ 38 rfl iI _ 192 Tryz.underlying38 hiI hzI0 hzI1 hzI2 rfl (by decide) U2.out (fun _=>False.elim) (.slice a2 me c2) HK2.out (fun rs ok' h=>one_inls2 line rs ok' w2 h) HDN.out HME.out (by omega) (by decide) rfl rfl ?_)
  intro a3 c3 rows3 w3 hrow3 hg3
  have hne:∀ b,b<W0.heap.size->some b≠(Value.slice av m cv).ownBlock:=fun b hb e=>by have:=(U2.out.own.lt b e.symm).1;omega
  have K3:=Lib.hid (show CB 42 S _ w3 from (hg3.block S (K2.out.lt) (hne S (by omega))).trans K2.out)
  have Z3:=Lib.hid (show PB (S+1) _ w3 from (hg3.block (S+1) (by have:=Z2.out.lt;exact this) (hne (S+1) (by omega))).trans Z2.out)
  have BW3:=Lib.hid (B0.out.trans (hrow3.bel.mono (by omega)))
  have hw3:=BW3.out.size
  have RK:=Lib.hid (show Rd (·<w3.heap.size) w3.drew (q0w (q0z ⟨lv,id,tx,line,refs⟩)) [.slice a3 (m+me) c3] by
   have h1:=hrow3.rd0.inside
   rw [<- List.map_append,<- HKIDS.out] at h1
   exact Rd.keep (ok:=fun b=>W0.heap.size<=b/\b<w3.heap.size) (w:=w3) (w':=w3.drew) (fun b hb _=>⟨hb.2,rfl⟩) _ _ h1)
  have MG:=Lib.hid (tMerge_any 1000000 (q0z ⟨lv,id,tx,line,refs⟩) w3.heap.size (.slice a3 (m+me) c3) w3.drew HOK.out.sz (Nat.le_refl _) RK.out (Nat.le_refl _) HOK.out.bd HOK.out.tx)
  have e1:=K3.out.cell 1 _ rfl
  have hz3:=Z3.out.lt
  have q5:(⟨#[35]⟩:ByteArray).size+id.size<=9223372036854775807:=by have:(⟨#[35]⟩:ByteArray).size=1:=rfl;omega
  clear hrow3 hg3 hne U2 HK2 K2 Z2 BW2 BW1 HROW B0 RK
  go_wp2_with fail
  go_region_with (go_at_call 62;(with_reducible refine MG.out.mono ?_);rintro e w4 ⟨v4,rfl,hk4,b4⟩;obtain ⟨a4,n4,c4,rfl⟩:=Rd.sl_form hk4;have K4:=CB.below (T:=42) (w:=w3.drew) K3.out b4;have e1b:=K4.cell 1 _ rfl;have Z4:=PB.grown (w:=w3.drew) Z3.out (q02 b4);obtain ⟨z0',z1',z2',z3',z4',z5',z6',z7',z8',z9',zf⟩:=PB.all Z4)
  all_goals
   obtain ⟨w6,hw6⟩:∃ w6,w6=ten w4 (S+1) 0 (.int .i64 9) (.string ⟨#[]⟩) (.string (⟨#[35]⟩++id)) (.string ⟨#[]⟩) (.string ⟨#[]⟩) (.slice none 0 0) (.slice none 0 0) (.slice none 0 0) (.slice none 0 0) (.slice a4 n4 c4):=⟨_,rfl⟩
   have hz6:PB (S+1) [.int .i64 9,.string ⟨#[]⟩,.string (⟨#[35]⟩++id),.string ⟨#[]⟩,.string ⟨#[]⟩,.slice none 0 0,.slice none 0 0,.slice none 0 0,.slice none 0 0,.slice a4 n4 c4] w6:=by
    rw [hw6]
    exact (((((((((Z4.set 0 _).set 1 _).set 2 _).set 3 _).set 4 _).set 5 _).set 6 _).set 7 _).set 8 _).set 9 _
   have hb6:∀ b,b≠S+1->w6.heap[b]?=w4.heap[b]?:=fun b hb=>by rw [hw6];exact ten_heap _ _ _ _ _ _ _ _ _ _ _ _ _ b hb
   have hb4:Below S w w4:=BW3.out.drew.trans (b4.mono (by have h9:w3.drew.heap.size=w3.heap.size:=rfl;have:=HS.out;omega))
   have HB6:Hid (Below S w w6):=by show Below _ _ _;rw [hw6];exact Below.ten hb4 (Nat.le_succ S)
   have HK6:Hid (Rd (S<=·) w6 (q0w (Inl.mergeL (q0z ⟨lv,id,tx,line,refs⟩))) [.slice a4 n4 c4]):=
    Rd.keep (ok:=(w3.drew.heap.size<=·)) (w:=w4) (w':=w6) (fun b hb _=>⟨by have h9:w3.heap.size<=b:=hb;have:=HS.out;omega,hb6 b (by have h9:w3.heap.size<=b:=hb;omega)⟩) _ _ hk4
   have HZ6:=Lib.hid hz6
   have HW6:=Lib.hid hw6
   clear hz6 hb6 hb4 hw6 Z4 K4 hk4 b4 K3 Z3 BW3
   go_wp2
   have hk:=HW6.out
   simp only [ten,Nat.zero_add] at hk
   rw [<- hk]
   clear hk
   have r0:=HZ6.out.cell 0 _ rfl
   have r1:=HZ6.out.cell 1 _ rfl
   have r2:=HZ6.out.cell 2 _ rfl
   have r3:=HZ6.out.cell 3 _ rfl
   have r4:=HZ6.out.cell 4 _ rfl
   have r5:=HZ6.out.cell 5 _ rfl
   have r6:=HZ6.out.cell 6 _ rfl
   have r7:=HZ6.out.cell 7 _ rfl
   have r8:=HZ6.out.cell 8 _ rfl
   have r9:=HZ6.out.cell 9 _ rfl
   exact bodyPost_ret (v:=.agg #[.int .i64 9,.string ⟨#[]⟩,.string (⟨#[35]⟩++id),.string ⟨#[]⟩,.string ⟨#[]⟩,.slice none 0 0,.slice none 0 0,.slice none 0 0,.slice none 0 0,.slice a4 n4 c4]) (by simp [results,Tryz.results87,go_sem,r0,r1,r2,r3,r4,r5,r6,r7,r8,r9]) rfl ⟨_,rfl,HS.out ▸ HK6.out,HS.out ▸ HB6.out⟩
open Go.RowKit
structure RShOk (x:En):Prop where
 sz:Inl.szL (q0z x)<=1000000
 tx:Inl.txBL (q0z x)
 id:x.id.size<=1000000
 txs:x.tx.size<=100000
 ls:Inl.szL x.line<=1000000
end Go.Proofs.YtlbioncagkkkoaaGreatDoor
