/- The walk of publisherlaw43.SlidesJoin. -/
import Derived.Test.YtkfnkeflalcphaaGreatDoorKSjW
set_option maxHeartbeats 8000000
set_option maxRecDepth 100000
open Go.Lib (hid)
namespace Go.Proofs.YtkfnkeflalcphaaGreatDoor
open List renaming setIfInBounds_toArray->jlk,set_cons_zero->jlq,set_cons_succ->jlx,length_map->jm6
open Go.RowKit.Below renaming refl->jm0
open Nat renaming le_refl->jm1,le_trans->jm2,lt_of_lt_of_le->jm3
open Go.RowKit
set_option linter.unusedVariables false
set_option linter.unusedSimpArgs false
theorem Rv (me:List Pr) (l:List ah) (vm vb:Value) (me2:List Pr) (l2:List ah) (um ub:Value) (w:World) (hm:Rd (·<w.heap.size) w (bP me) [vm]) (hb:Rd (·<w.heap.size) w (fC l) [vb]) (XB:∀ p∈me,p.wf) (hwl:ah.qL l) (hml:me.length<=reachBytes) (hll:l.length<=reachBytes) (hm2:Rd (·<w.heap.size) w (bP me2) [um]) (hb2:Rd (·<w.heap.size) w (fC l2) [ub]) (jd9:∀ p∈me2,p.wf) (jdj:ah.qL l2) (jj8:me2.length<=reachBytes) (jj9:l2.length<=reachBytes) (ht:PT w) : Calls Tryz.prog 9 #[.agg #[vm,vb],.agg #[um,ub]] w (dN (.bool true) w):=by
  obtain ⟨am,nm,cm,rfl⟩:=Rd.au hm;obtain ⟨bm,mm,dm,rfl⟩:=Rd.au hm2;obtain ⟨ab,cb,hvb,-⟩:=Rd.aB hb;obtain ⟨nb,hnb⟩:∃ nb,nb=l.length:=⟨_,rfl⟩;obtain rfl:vb=.slice ab nb cb:=by rw [hnb];simpa using hvb
  obtain ⟨bb,db,hub,-⟩:=Rd.aB hb2;obtain ⟨mb,hmb⟩:∃ mb,mb=l2.length:=⟨_,rfl⟩;obtain rfl:ub=.slice bb mb db:=by rw [hmb];simpa using hub
  obtain ⟨S,hS⟩:∃ S,S=w.heap.size:=⟨_,rfl⟩;obtain ⟨W0,hW0⟩:∃ W0,W0=(w.alloc (.cells #[.slice am nm cm,.slice ab nb cb] 26)).alloc (.cells #[.slice bm mm dm,.slice bb mb db] 26):=⟨_,rfl⟩;have z1:(w.alloc (.cells #[.slice am nm cm,.slice ab nb cb] 26)).heap.size=S+1:=by rw [World.size_alloc,hS]
  have k0:CB 26 S [.slice am nm cm,.slice ab nb cb] W0:=by rw [hW0,hS];exact (CB.new _ _ w).below ((jm0 _ _).alloc (jm1 _) _)
  have k1:CB 26 (S+1) [.slice bm mm dm,.slice bb mb db] W0:=by rw [hW0,<- z1];exact CB.new _ _ _
  have b0:Below w.heap.size w W0:=by rw [hW0];exact ((jm0 _ _).alloc (jm1 _) _).alloc (by rw [z1];omega) _
  have SM:=hid (JL me l _ _ W0 (hm.up b0) (hb.up b0) XB hwl);have SM2:Hid (∀ W,Below w.heap.size w W->_):=fun W hW=>JL me2 l2 (.slice bm mm dm) (.slice bb mb db) W (hm2.up hW) (hb2.up hW) jd9 jdj
  have HB:=hid hb;have HB2:=hid hb2;have Rn:=hid hnb;have HMB:=hid hmb;have pX:Hid (∀ W,Below w.heap.size w W->PT W):=fun W hW=>ht.below hW
  have B0:=hid b0;have X0:Hid (∀ W:World,Below W0.heap.size W0 W->W.cell? ⟨S,0,none⟩=some (.slice am nm cm)/\W.cell? ⟨S,1,none⟩=some (.slice ab nb cb)/\W.cell? ⟨S+1,0,none⟩=some (.slice bm mm dm)/\W.cell? ⟨S+1,1,none⟩=some (.slice bb mb db)):=fun W hW=>⟨(k0.below hW).cell 0 _ rfl,(k0.below hW).cell 1 _ rfl,(k1.below hW).cell 0 _ rfl,(k1.below hW).cell 1 _ rfl⟩
  obtain ⟨x0,x1,x2,x3⟩:=X0.out W0 (jm0 _ _);clear hm hb XB hwl hml hll ht k0 k1 b0 hm2 hb2 jd9 jdj jj8 jj9 hvb hub hnb hmb;go_enter Tryz.func9,Tryz.ntmps9;go_upto_region 1 with (fail)
  rw [<- hW0,<- hS];clear hW0 hS z1;go_wp2_with fail
  (with_reducible refine SM.out.mono ?_)
  rintro e w1 ⟨b,rfl,hsm,b1⟩;have B1:=hid b1;have B1w:=hid (aP B0.out b1);clear x0 x1 x2 x3 b1 SM;cases b with
  | false=>
    have AW:=hid (Cw w1 (pX.out _ B1w.out));clear hsm;go_wp2_with fail
    (with_reducible refine AW.out.mono ?_)
    rintro e w2 ⟨rfl,b2⟩;have HF:=hid (aP B1w.out b2);clear b2;go_wp2;go_ret;exact ⟨rfl,HF.out⟩
  | true=>
    obtain ⟨hd,hs⟩:=hsm rfl;have hsz:=hs.sz;have hbd:=ah.j6 l hs.sm;have CO:=hid hsz;have kE:=hid hbd;have SMB:=hid (SM2.out w1 B1w.out);obtain ⟨x0,x1,x2,x3⟩:=X0.out w1 B1.out;clear hsm hd hs hsz hbd SM2;go_wp2_with fail
    (with_reducible refine SMB.out.mono ?_)
    rintro e w2 ⟨b,rfl,hsm,b2⟩;have B2:=hid (aP B1.out b2);have S9:=hid (aP B1w.out b2);clear x0 x1 x2 x3 b2 SMB;cases b with
    | false=>
      have AW:=hid (Cw w2 (pX.out _ S9.out));clear hsm;go_wp2_with fail
      (with_reducible refine AW.out.mono ?_)
      rintro e w3 ⟨rfl,b3⟩;have HF:=hid (aP S9.out b3);clear b3;go_wp2;go_ret;exact ⟨rfl,HF.out⟩
    | true=>
      obtain ⟨hd,hs⟩:=hsm rfl;have hsz:=hs.sz;have hbd:=ah.j6 l2 hs.sm;have XQ:=hid hsz;have jjj:=hid hbd;clear hsm hd hs hsz hbd;obtain ⟨iB,xS,Kv,Kw,Bv⟩:=info_parts Si;have XF:Hid (∀ W:World,Below w2.heap.size w2 W->W.cell? ⟨S,0,none⟩=some (.slice am nm cm)/\W.cell? ⟨S,1,none⟩=some (.slice ab nb cb)/\W.cell? ⟨S+1,0,none⟩=some (.slice bm mm dm)/\W.cell? ⟨S+1,1,none⟩=some (.slice bb mb db)):=fun W hW=>X0.out W (aP B2.out hW)
      have hnb:nb<=120:=by have h1:=CO.out;have h2:=ah.cZ l;have:=Rn.out;omega
      have hmb:mb<=120:=by have h1:=XQ.out;have h2:=ah.cZ l2;have:=HMB.out;omega
      have QM:Hid ((l.map ah.d).length=nb):=by show _=_;rw [jm6];exact Rn.out.symm
      have HLM:Hid ((l2.map ah.d).length=mb):=by show _=_;rw [jm6];exact HMB.out.symm
      have HBY:Hid (∀ y,Below w2.heap.size w2 y->Rd (·<w2.heap.size) y (fC l) [.slice ab nb cb]/\Rd (·<w2.heap.size) y (fC l2) [.slice bb mb db]):=fun y hy=>⟨Rd.keep (fun b (hb:b<w.heap.size) _=>⟨jm3 hb S9.out.size,(aP S9.out hy).block b hb⟩) _ _ HB.out,Rd.keep (fun b (hb:b<w.heap.size) _=>⟨jm3 hb S9.out.size,(aP S9.out hy).block b hb⟩) _ _ HB2.out⟩
      have HJD:Hid ((jB::l2).map ah.d=[jB.d]++l2.map ah.d):=rfl;go_upto_region 3 with (fail)
      go_cut [5] (fun s5 wx=>∃ p a9 c9,s5=.pointer (some ⟨p,0,none⟩)/\CB 26 p [.slice none 0 0,.slice a9 (nb+(1+mb)) c9] wx/\w2.heap.size<=p/\Rd (·<wx.heap.size) wx (fC (l++jB::l2)) [.slice a9 (nb+(1+mb)) c9]/\Below w2.heap.size w2 wx)
      case first=>
        refine QX 12 (fun w'=>Below w2.heap.size w2 w') (by kernel_rfl) (jm0 _ _).drew ?_;intro hH;refine ig 1 (v:=?_) rfl (by kernel_rfl) hH (by rfl) ?_ ?_;rotate_left
        · (intro wv hSw;obtain ⟨d0,d1,d2,d3⟩:=XF.out wv hSw;go_simp;try with_reducible rfl)
        try simp only [Act.put,jlk,jlq,jlx]
        refine ig 2 (v:=?_) rfl (by kernel_rfl) hH (by rfl) ?_ ?_;rotate_left
        · (intro wv hSw;obtain ⟨d0,d1,d2,d3⟩:=XF.out wv hSw;go_simp;try with_reducible rfl)
        try simp only [Act.put,jlk,jlq,jlx]
        refine ig 6 (v:=?_) rfl (by kernel_rfl) hH (by rfl) ?_ ?_;rotate_left
        · (intro wv hSw;obtain ⟨d0,d1,d2,d3⟩:=XF.out wv hSw;go_simp;try with_reducible rfl)
        try simp only [Act.put,jlk,jlq,jlx]
        refine ig 7 (v:=?_) rfl (by kernel_rfl) hH (by rfl) ?_ ?_;rotate_left
        · (intro wv hSw;obtain ⟨d0,d1,d2,d3⟩:=XF.out wv hSw;go_simp;try with_reducible rfl)
        try simp only [Act.put,jlk,jlq,jlx]
        obtain ⟨y,hy0⟩:∃ y,y=w2.drew:=⟨_,rfl⟩;rw [<- hy0] at hH;rw [<- hy0];clear hy0;have HJ:Hid (JJ w2 none (fun _=>True) y):=⟨hH,fun p hp=>by simp at hp,fun _ _=>trivial⟩;refine xR (i:=0) (j:=11) rfl rfl (by decide +kernel) (fun KQ hK=>?_) (fun KQ hK=>?_);rotate_left;go_simp;have HJ2:=hid HJ.out.zero;obtain ⟨p,hf⟩:∃ p,p=y.heap.size:=⟨_,rfl⟩;obtain ⟨y,hN⟩:∃ y2,y2=y.alloc (.cells #[.slice none 0 0,.slice none 0 0] 26):=⟨_,rfl⟩;rw [<- hN,<- hf] at HJ2;rw [<- hN,<- hf];clear hN hf;refine hK.out _ _ (fun _ _=>HJ2.out.aI) (fun hH2=>?_);clear hK KQ hH;have hH:=hH2 (by decide) (by kernel_rfl);clear hH2;try simp only [Act.put,jlk,jlq,jlx]
        clear HJ;have HJ:=HJ2;clear HJ2;refine q01 (i:=0) rfl (by kernel_rfl) (fun KQ hK=>?_);all_goals
          go_simp;have hr:=ay.emp 48 11 (·<w2.heap.size) y;obtain ⟨b0,hb0⟩:∃ b0,b0=y:=⟨_,rfl⟩;obtain ⟨g,hf⟩:∃ g,g=y.heap.size:=⟨_,rfl⟩;have hbl:Below y.heap.size y (y.alloc (.cells #[] 48)):=(jm0 _ _).alloc (jm1 _) _;have HJ2:=hid (HJ.out.far hbl (X':=fun z=>ay 48 11 (·<w2.heap.size) (y.heap.size+1) y [] [] (.slice (some ⟨y.heap.size,0,none⟩) 0 0) z) (fun z hz=>hr.below hz));have Qo:Hid (w2.heap.size<=b0.heap.size):=by rw [hb0];exact HJ.out.aI.size
          obtain ⟨y,hN⟩:∃ y2,y2=y.alloc (.cells #[] 48):=⟨_,rfl⟩;rw [<- hN,<- hf,<- hb0] at HJ2;rw [<- hN,<- hf];clear hN hf hb0 hbl hr;refine hK.out _ _ (fun _ _=>HJ2.out.aI) (fun hH2=>?_);clear hK KQ hH;have hH:=hH2 (by decide) (by kernel_rfl);clear hH2;try simp only [Act.put,jlk,jlq,jlx]
          clear HJ;have HJ:=HJ2;clear HJ2
        all_goals
          first
            | (refine xR (i:=3) (j:=11) rfl rfl (by decide +kernel) (fun KQ hK=>?_) (fun KQ hK=>?_)
               rotate_left;go_simp;have HJ2:=hid HJ.out.zero;obtain ⟨p,hf⟩:∃ p,p=y.heap.size:=⟨_,rfl⟩;obtain ⟨y,hN⟩:∃ y2,y2=y.alloc (.cells #[.slice none 0 0,.slice none 0 0] 26):=⟨_,rfl⟩;rw [<- hN,<- hf] at HJ2;rw [<- hN,<- hf];clear hN hf;refine hK.out _ _ (fun _ _=>HJ2.out.aI) (fun hH2=>?_);clear hK KQ hH;have hH:=hH2 (by decide) (by kernel_rfl);clear hH2;try simp only [Act.put,jlk,jlq,jlx]
               clear HJ;have HJ:=HJ2;clear HJ2;refine q01 (i:=3) rfl (by kernel_rfl) (fun KQ hK=>?_))
            | refine q01 (i:=3) rfl (by kernel_rfl) (fun KQ hK=>?_)
        all_goals
          refine nT (n:=0) (m:=nb) rfl (.tmp 18) (.tmp 20) 22 rfl iB _ 192 Tryz.underlying22 xS Kv Kw Bv rfl (by decide) HJ.out.now (fun b hb=>jm3 hb Qo.out) (.slice ab nb cb) (((HBY.out y HJ.out.aI).1).weaken (fun b hb=>.inl hb)) (fun rs ok' h=>uI (l:=l) h) rfl QM.out (by omega) (by decide) rfl rfl ?_;intro a3 c3 dM y hr hg;have HB0:=hid HJ.out.now.aI.size;have HJ2:=hid (HJ.out.app HJ.out.now.own Qo.out hg (X':=fun z=>ay 48 11 (·<w2.heap.size) y.heap.size b0 (l.map ah.d) dM (.slice a3 nb c3) z) (fun z hz=>by have h:=hr.below hz;rwa [List.nil_append,Nat.zero_add] at h));obtain ⟨U3,hU3⟩:∃ U3,U3=y.heap.size:=⟨_,rfl⟩;rw [<- hU3] at HJ2;have HU3:Hid (U3<=y.heap.size/\b0.heap.size<=U3):=⟨by omega,by rw [hU3];exact HJ2.out.now.aI.size⟩;rw [Nat.zero_add];clear hr hg hU3 HB0;refine hK.out _ _ (fun _ _=>HJ2.out.aI) (fun hH2=>?_);clear hK KQ hH;have hH:=hH2 (by decide) (by kernel_rfl);clear hH2;try simp only [Act.put,jlk,jlq,jlx]
          clear HJ;have HJ:=HJ2;clear HJ2;have HSU:Hid (w2.heap.size<=U3):=jm2 Qo.out HU3.out.2
        all_goals
          first
            | (refine xR (i:=4) (j:=11) rfl rfl (by decide +kernel) (fun KQ hK=>?_) (fun KQ hK=>?_)
               rotate_left;go_simp;have HJ2:=hid HJ.out.zero;obtain ⟨p,hf⟩:∃ p,p=y.heap.size:=⟨_,rfl⟩;obtain ⟨y,hN⟩:∃ y2,y2=y.alloc (.cells #[.slice none 0 0,.slice none 0 0] 26):=⟨_,rfl⟩;rw [<- hN,<- hf] at HJ2;rw [<- hN,<- hf];clear hN hf;refine hK.out _ _ (fun _ _=>HJ2.out.aI) (fun hH2=>?_);clear hK KQ hH;have hH:=hH2 (by decide) (by kernel_rfl);clear hH2;try simp only [Act.put,jlk,jlq,jlx]
               clear HJ;have HJ:=HJ2;clear HJ2;refine q01 (i:=4) rfl (by kernel_rfl) (fun KQ hK=>?_))
            | refine q01 (i:=4) rfl (by kernel_rfl) (fun KQ hK=>?_)
        all_goals
          go_simp;go_at_call 28
          (with_reducible refine (Cv 2 ⟨#[]⟩ _).mono ?_)
          rintro e y ⟨p4,he,hp4,hk4,hb⟩;have he:e=.returned (.agg #[.int .i64 2,.int .i64 2,.string ⟨#[]⟩,.string ⟨#[]⟩,.string ⟨#[]⟩,.string ⟨#[]⟩,.string ⟨#[]⟩,.slice none 0 0,.slice none 0 0,.slice (some ⟨p4,0,none⟩) 1 1,.slice none 0 0]):=he;subst he;have hUy:=HJ.out.now.sO;have HJ2:=hid (HJ.out.far hb (X':=fun z=>ay 48 11 (·<w2.heap.size) U3 b0 (l.map ah.d) dM (.slice a3 nb c3) z/\CB 66 p4 (eC ⟨#[84]⟩) z) (fun z hz=>⟨HJ.out.ext z (aP hb hz),hk4.below hz⟩));have Q9:Hid (U3<=p4):=jm2 hUy hp4;clear hb hk4 hp4 hUy;refine hK.out _ _ (fun _ _=>HJ2.out.aI) (fun hH2=>?_);clear hK KQ hH;have hH:=hH2 (by decide) (by kernel_rfl);clear hH2;try simp only [Act.put,jlk,jlq,jlx]
          clear HJ;have HJ:=HJ2;clear HJ2
        all_goals
          first
            | (refine xR (i:=5) (j:=11) rfl rfl (by decide +kernel) (fun KQ hK=>?_) (fun KQ hK=>?_)
               rotate_left;go_simp;have HJ2:=hid HJ.out.zero;obtain ⟨p,hf⟩:∃ p,p=y.heap.size:=⟨_,rfl⟩;obtain ⟨y,hN⟩:∃ y2,y2=y.alloc (.cells #[.slice none 0 0,.slice none 0 0] 26):=⟨_,rfl⟩;rw [<- hN,<- hf] at HJ2;rw [<- hN,<- hf];clear hN hf;refine hK.out _ _ (fun _ _=>HJ2.out.aI) (fun hH2=>?_);clear hK KQ hH;have hH:=hH2 (by decide) (by kernel_rfl);clear hH2;try simp only [Act.put,jlk,jlq,jlx]
               clear HJ;have HJ:=HJ2;clear HJ2;refine q01 (i:=5) rfl (by kernel_rfl) (fun KQ hK=>?_))
            | refine q01 (i:=5) rfl (by kernel_rfl) (fun KQ hK=>?_)
        all_goals
          go_simp;have hx:Rd (fun b=>b<w2.heap.size\/(U3<=b/\b<y.heap.size)) y jB.d [.int .i64 2,.int .i64 2,.string ⟨#[]⟩,.string ⟨#[]⟩,.string ⟨#[]⟩,.string ⟨#[]⟩,.string ⟨#[]⟩,.slice none 0 0,.slice none 0 0,.slice (some ⟨p4,0,none⟩) 1 1,.slice none 0 0]:=tJ 2 2 ⟨#[]⟩ (jF HJ.out.now.2 _ (.inr ⟨Q9.out,HJ.out.now.2.lt⟩));have hr:=ay.jd0 (T:=48) (k:=11) (ok:=(fun b=>b<w2.heap.size\/(U3<=b/\b<y.heap.size))) (fun b hb=>hb.elim (fun h=>jm3 h HJ.out.aI.size) (fun h=>h.2)) rfl hx;have hbl:Below y.heap.size y (y.alloc (.cells #[.int .i64 2,.int .i64 2,.string ⟨#[]⟩,.string ⟨#[]⟩,.string ⟨#[]⟩,.string ⟨#[]⟩,.string ⟨#[]⟩,.slice none 0 0,.slice none 0 0,.slice (some ⟨p4,0,none⟩) 1 1,.slice none 0 0] 48)):=(jm0 _ _).alloc (jm1 _) _;obtain ⟨b5,hb5⟩:∃ b5,b5=y:=⟨_,rfl⟩;obtain ⟨g5,hf⟩:∃ g,g=y.heap.size:=⟨_,rfl⟩;have HJ2:=hid (HJ.out.far hbl (X':=fun z=>ay 48 11 (·<w2.heap.size) U3 b0 (l.map ah.d) dM (.slice a3 nb c3) z/\ay 48 11 (fun b=>b<w2.heap.size\/(U3<=b/\b<y.heap.size)) (y.heap.size+1) y [jB.d] [[.int .i64 2,.int .i64 2,.string ⟨#[]⟩,.string ⟨#[]⟩,.string ⟨#[]⟩,.string ⟨#[]⟩,.string ⟨#[]⟩,.slice none 0 0,.slice none 0 0,.slice (some ⟨p4,0,none⟩) 1 1,.slice none 0 0]] (.slice (some ⟨y.heap.size,0,none⟩) 1 1) z) (fun z hz=>⟨(HJ.out.ext z (aP hbl hz)).1,hr.below hz⟩));have qM:Hid (w2.heap.size<=b5.heap.size/\U3<=b5.heap.size/\U3<=g5/\g5<=b5.heap.size):=by rw [hb5,hf];exact ⟨HJ.out.aI.size,HJ.out.now.1.sO,HJ.out.now.1.sO,jm1 _⟩
          obtain ⟨y,hN⟩:∃ y2,y2=y.alloc (.cells #[.int .i64 2,.int .i64 2,.string ⟨#[]⟩,.string ⟨#[]⟩,.string ⟨#[]⟩,.string ⟨#[]⟩,.string ⟨#[]⟩,.slice none 0 0,.slice none 0 0,.slice (some ⟨p4,0,none⟩) 1 1,.slice none 0 0] 48):=⟨_,rfl⟩;rw [<- hN,<- hf,<- hb5] at HJ2;rw [<- hN,<- hf];clear hN hf hb5 hbl hr hx;refine hK.out _ _ (fun _ _=>HJ2.out.aI) (fun hH2=>?_);clear hK KQ hH;have hH:=hH2 (by decide) (by kernel_rfl);clear hH2;try simp only [Act.put,jlk,jlq,jlx]
          clear HJ;have HJ:=HJ2;clear HJ2
        all_goals
          first
            | (refine xR (i:=8) (j:=11) rfl rfl (by decide +kernel) (fun KQ hK=>?_) (fun KQ hK=>?_)
               rotate_left;go_simp;have HJ2:=hid HJ.out.zero;obtain ⟨p,hf⟩:∃ p,p=y.heap.size:=⟨_,rfl⟩;obtain ⟨y,hN⟩:∃ y2,y2=y.alloc (.cells #[.slice none 0 0,.slice none 0 0] 26):=⟨_,rfl⟩;rw [<- hN,<- hf] at HJ2;rw [<- hN,<- hf];clear hN hf;refine hK.out _ _ (fun _ _=>HJ2.out.aI) (fun hH2=>?_);clear hK KQ hH;have hH:=hH2 (by decide) (by kernel_rfl);clear hH2;try simp only [Act.put,jlk,jlq,jlx]
               clear HJ;have HJ:=HJ2;clear HJ2;refine q01 (i:=8) rfl (by kernel_rfl) (fun KQ hK=>?_))
            | refine q01 (i:=8) rfl (by kernel_rfl) (fun KQ hK=>?_)
        all_goals
          refine nT (n:=1) (m:=mb) rfl (.tmp 23) (.tmp 25) 22 rfl iB _ 192 Tryz.underlying22 xS Kv Kw Bv rfl (by decide) HJ.out.now.2 (fun b hb=>hb.elim (fun h=>jm3 h qM.out.1) (fun h=>jm3 h.2 qM.out.2.2.2)) (.slice bb mb db) (((HBY.out y HJ.out.aI).2).weaken (fun b hb=>.inl (.inl hb))) (fun rs ok' h=>uI (l:=l2) h) rfl HLM.out (by omega) (by decide) rfl rfl ?_;intro a8 c8 Fh y hr hg;have h3:ay 48 11 (·<w2.heap.size) U3 b0 (l.map ah.d) dM (.slice a3 nb c3) y:=HJ.out.now.1.same hg.size ⟨hg.os,hg.tape,hg.output⟩ (fun b hb=>hg.block b (jm3 hb HJ.out.now.1.sO) (fun e=>by have e1:g5=b:=(by simpa [Value.ownBlock] using e.symm);have:=qM.out.2.2.1;omega));have HJ2:=hid (HJ.out.app HJ.out.now.2.own qM.out.1 hg (X':=fun z=>ay 48 11 (·<w2.heap.size) U3 b0 (l.map ah.d) dM (.slice a3 nb c3) z/\ay 48 11 (fun b=>b<w2.heap.size\/(U3<=b/\b<g5)) y.heap.size b5 ([jB.d]++l2.map ah.d) Fh (.slice a8 (1+mb) c8) z) (fun z hz=>⟨h3.below hz,hr.below hz⟩));clear hr hg h3;refine hK.out _ _ (fun _ _=>HJ2.out.aI) (fun hH2=>?_);clear hK KQ hH;have hH:=hH2 (by decide) (by kernel_rfl);clear hH2;try simp only [Act.put,jlk,jlq,jlx]
          clear HJ;have HJ:=HJ2;clear HJ2
        all_goals
          first
            | (refine xR (i:=9) (j:=11) rfl rfl (by decide +kernel) (fun KQ hK=>?_) (fun KQ hK=>?_)
               rotate_left;go_simp;have HJ2:=hid HJ.out.zero;obtain ⟨p,hf⟩:∃ p,p=y.heap.size:=⟨_,rfl⟩;obtain ⟨y,hN⟩:∃ y2,y2=y.alloc (.cells #[.slice none 0 0,.slice none 0 0] 26):=⟨_,rfl⟩;rw [<- hN,<- hf] at HJ2;rw [<- hN,<- hf];clear hN hf;refine hK.out _ _ (fun _ _=>HJ2.out.aI) (fun hH2=>?_);clear hK KQ hH;have hH:=hH2 (by decide) (by kernel_rfl);clear hH2;try simp only [Act.put,jlk,jlq,jlx]
               clear HJ;have HJ:=HJ2;clear HJ2;refine q01 (i:=9) rfl (by kernel_rfl) (fun KQ hK=>?_))
            | refine q01 (i:=9) rfl (by kernel_rfl) (fun KQ hK=>?_)
        all_goals
          refine nT (n:=nb) (m:=1+mb) rfl (.tmp 21) (.tmp 26) 22 rfl iB _ 192 Tryz.underlying22 xS Kv Kw Bv rfl (by decide) HJ.out.now.1 (fun b hb=>jm3 hb Qo.out) (.slice a8 (1+mb) c8) (HJ.out.now.2.rd.weaken (fun b hb=>show b<w2.heap.size\/U3<=b from hb.elim (fun h=>h.elim Or.inl (fun h=>Or.inr h.1)) (fun h=>Or.inr (jm2 qM.out.2.1 h)))) (fun rs ok' h=>uI (l:=jB::l2) h) QM.out (by rw [List.length_append,HLM.out];rfl) (by omega) (by decide) rfl rfl ?_;intro a9 c9 jdk y hr hg;have HJ2:=hid (HJ.out.app HJ.out.now.1.own Qo.out hg (X':=fun z=>ay 48 11 (·<w2.heap.size) y.heap.size b0 (l.map ah.d++([jB.d]++l2.map ah.d)) jdk (.slice a9 (nb+(1+mb)) c9) z) (fun z hz=>hr.below hz));clear hr hg;refine hK.out _ _ (fun _ _=>HJ2.out.aI) (fun hH2=>?_);clear hK KQ hH;have hH:=hH2 (by decide) (by kernel_rfl);clear hH2;try simp only [Act.put,jlk,jlq,jlx]
          clear HJ;have HJ:=HJ2;clear HJ2
        all_goals
          first
            | (refine xR (i:=10) (j:=11) rfl rfl (by decide +kernel) (fun KQ hK=>?_) (fun KQ hK=>?_)
               rotate_left;go_simp;have HJ2:=hid HJ.out.zero;obtain ⟨p,hf⟩:∃ p,p=y.heap.size:=⟨_,rfl⟩;obtain ⟨y,hN⟩:∃ y2,y2=y.alloc (.cells #[.slice none 0 0,.slice none 0 0] 26):=⟨_,rfl⟩;rw [<- hN,<- hf] at HJ2;rw [<- hN,<- hf];clear hN hf;refine hK.out _ _ (fun _ _=>HJ2.out.aI) (fun hH2=>?_);clear hK KQ hH;have hH:=hH2 (by decide) (by kernel_rfl);clear hH2;try simp only [Act.put,jlk,jlq,jlx]
               clear HJ;have HJ:=HJ2;clear HJ2;refine q01 (i:=10) rfl (by kernel_rfl) (fun KQ hK=>?_))
            | refine q01 (i:=10) rfl (by kernel_rfl) (fun KQ hK=>?_)
        all_goals
          go_simp;have HJ2:=HJ;refine hK.out _ _ (fun _ _=>HJ2.out.aI) (fun hH2=>?_);clear hK KQ hH;have hH:=hH2 (by decide) (by kernel_rfl);clear hH2;try simp only [Act.put,jlk,jlq,jlx]
          clear HJ2
        all_goals
          first
            | (refine q01 (i:=11) rfl (by decide +kernel) (fun KQ hK=>?_)
               go_simp;have HJ2:=hid HJ.out.zero;obtain ⟨p,hf⟩:∃ p,p=y.heap.size:=⟨_,rfl⟩;obtain ⟨y,hN⟩:∃ y2,y2=y.alloc (.cells #[.slice none 0 0,.slice none 0 0] 26):=⟨_,rfl⟩;rw [<- hN,<- hf] at HJ2;rw [<- hN,<- hf];clear hN hf;refine hK.out _ _ (fun _ _=>HJ2.out.aI) (fun hH2=>?_);clear hK KQ hH;have hH:=hH2 (by decide) (by kernel_rfl);clear hH2;try simp only [Act.put,jlk,jlq,jlx]
               clear HJ;have HJ:=HJ2;clear HJ2)
            | skip
        all_goals
          refine q01 (i:=12) rfl (by kernel_rfl) (fun KQ hK=>?_);obtain ⟨hkp,hp2⟩:=HJ.out.bx p rfl;have r0:=hkp.cell 0 _ rfl;have r1:=hkp.cell 1 _ rfl;have f0:=mg hkp 0;have f1:=mg hkp 1;go_simp;have hk2:=dx (dx hkp 0 (.slice none 0 0)) 1 (.slice a9 (nb+(1+mb)) c9);have hrd:=((show Rd (fun b=>b<w2.heap.size\/b0.heap.size<=b) y (fC (l++jB::l2)) [.slice a9 (nb+(1+mb)) c9] by unfold fC;rw [List.map_append];exact HJ.out.now.rd).J6 hkp);have hgg:y.grownBy ((y.setCell ⟨p,0,none⟩ (.slice none 0 0)).setCell ⟨p,1,none⟩ (.slice a9 (nb+(1+mb)) c9)) (some p):=⟨rfl,rfl,rfl,by simp [World.setCell],fun k _ hk=>(Below.heap_setCell _ ⟨p,1,none⟩ _ k (fun e=>hk (by rw [e]))).trans (Below.heap_setCell _ ⟨p,0,none⟩ _ k (fun e=>hk (by rw [e])))⟩;have Es:Rd (·<((y.setCell ⟨p,0,none⟩ (.slice none 0 0)).setCell ⟨p,1,none⟩ (.slice a9 (nb+(1+mb)) c9)).heap.size) ((y.setCell ⟨p,0,none⟩ (.slice none 0 0)).setCell ⟨p,1,none⟩ (.slice a9 (nb+(1+mb)) c9)) (fC (l++jB::l2)) [.slice a9 (nb+(1+mb)) c9]:=Rd.keep (fun b hb hlt=>⟨jm3 hlt hgg.size,hgg.block b hlt (fun e=>hb.2 (by cases e;rfl))⟩) _ _ hrd;have HEX:Hid (∃ p' a9' c9',(Value.pointer (some ⟨p,0,none⟩))=.pointer (some ⟨p',0,none⟩)/\CB 26 p' [.slice none 0 0,.slice a9' (nb+(1+mb)) c9'] ((y.setCell ⟨p,0,none⟩ (.slice none 0 0)).setCell ⟨p,1,none⟩ (.slice a9 (nb+(1+mb)) c9))/\w2.heap.size<=p'/\Rd (·<((y.setCell ⟨p,0,none⟩ (.slice none 0 0)).setCell ⟨p,1,none⟩ (.slice a9 (nb+(1+mb)) c9)).heap.size) ((y.setCell ⟨p,0,none⟩ (.slice none 0 0)).setCell ⟨p,1,none⟩ (.slice a9 (nb+(1+mb)) c9)) (fC (l++jB::l2)) [.slice a9' (nb+(1+mb)) c9']/\Below w2.heap.size w2 ((y.setCell ⟨p,0,none⟩ (.slice none 0 0)).setCell ⟨p,1,none⟩ (.slice a9 (nb+(1+mb)) c9))):=⟨p,a9,c9,rfl,hk2,hp2,Es,HJ.out.aI.grown hgg HJ.out.aI.size (fun g hg=>by cases hg;exact hp2)⟩;clear hkp r0 r1 f0 f1 hk2 hrd Es hgg;refine hK.out _ _ (fun h=>absurd rfl h) (fun _=>?_);clear hK KQ hH;try simp only [Act.put,jlk,jlq,jlx]
          refine Gp (by kernel_rfl) ?_ _;go_wp2
          go_meet
          exact HEX.out
      case rest=>
        obtain ⟨p,a9,c9,rfl,hkp,hp2,hrd,hbw⟩:=hcut;obtain ⟨w3,hw3⟩:∃ w3:World,w3=wc:=⟨_,rfl⟩;subst hw3;have B3w:=hid (aP S9.out hbw);have B23:=hid hbw;have KP:=hid hkp;have XR:ah.jS (l++jB::l2):=(jW _).2 fun b hb=>by
          rcases List.mem_append.1 hb with hb | hb
          · exact (jW _).1 kE.out b hb
          · rcases List.mem_cons.1 hb with rfl | hb
            · exact jik
            · exact (jW _).1 jjj.out b hb
        have jdq:ah.aR (l++jB::l2)<=900000:=by rw [pQ,ah.aR,jd2];have h1:=CO.out;have h2:=XQ.out;omega
        have jdx:ah.aR (jB::l2)<=900000:=by rw [ah.aR,jd2];have h2:=XQ.out;omega
        have jdz:ah.jS (jB::l2):=(jW _).2 fun b hb=>(jW _).1 XR b (List.mem_append_right _ hb)
        have HSK:=hid jdx;have HBK:=hid jdz;have O1:=hid (uH (.slice none 0 0) (l++jB::l2) _ w3 ⟨_,_,_,rfl⟩ hrd jdq XR);rw [GX] at O1;obtain ⟨PX,hPX⟩:∃ PX,PX=Lc (l++jB::l2):=⟨_,rfl⟩;obtain ⟨PY,hPY⟩:∃ PY,PY=Lc l:=⟨_,rfl⟩;obtain ⟨PZ,hPZ⟩:∃ PZ,PZ=Lc (jB::l2):=⟨_,rfl⟩;have je0:Hid (PX=PY++PZ):=by show _=_;rw [hPX,hPY,hPZ];exact Sg l l2 jB jd1
        have HZ1:Hid (1<=PZ.length):=by show _<=_;rw [hPZ];exact jb0 l2 jB
        have HYL:Hid (PY.length<=1000):=by show _<=_;rw [hPY];have h:=JU l;have:=Rn.out;omega
        have HZL:Hid (PZ.length<=1000):=by show _<=_;rw [hPZ];have h:=JU (jB::l2);rw [List.length_cons] at h;have:=HMB.out;omega
        obtain ⟨nX,hnX⟩:∃ n,n=PX.length:=⟨_,rfl⟩;obtain ⟨nY,hnY⟩:∃ n,n=PY.length:=⟨_,rfl⟩;obtain ⟨nZ,hnZ⟩:∃ n,n=PZ.length:=⟨_,rfl⟩;have HNX:=hid hnX;have HNY:=hid hnY;have HNZ:=hid hnZ;rw [<- hnY] at HYL;rw [<- hnZ] at HZL HZ1;clear hnX hnY hnZ;rw [<- hPX] at O1;have O2:Hid (∀ W,Below w2.heap.size w2 W->Calls Tryz.prog 21 #[.agg #[.slice am nm cm,.slice ab nb cb]] W (Cx W PY)):=fun W hW=>by
          have h:=uH (.slice am nm cm) l (.slice ab nb cb) W ⟨_,_,_,rfl⟩ (HB.out.up (aP S9.out hW)) (by have:=CO.out;omega) kE.out;rw [GX,<- hPY] at h;exact h
        have O3:Hid (∀ (W:World) (v:Value),Rd (·<W.heap.size) W (fC (jB::l2)) [v]->Calls Tryz.prog 21 #[.agg #[.slice none 0 0,v]] W (Cx W PZ)):=fun W v hv=>by
          have h:=uH (.slice none 0 0) (jB::l2) v W ⟨_,_,_,rfl⟩ hv HSK.out HBK.out;rw [GX,<- hPZ] at h;exact h
        have e0:=hkp.cell 0 _ rfl;have e1:=hkp.cell 1 _ rfl;clear hkp hrd hbw XR jdq jdx jdz hPX hPY hPZ;go_wp2_with fail
        (with_reducible refine O1.out.mono ?_)
        rintro e w4 ⟨v4,rfl,h4,b4⟩;obtain ⟨a4,c4,e4⟩:=gq h4;obtain rfl:v4=.slice a4 nX c4:=by rw [HNX.out];simpa using e4
        clear e4;have HX4:=hid h4;have B4:=hid (aP B23.out b4);obtain ⟨d0,d1,d2,d3⟩:=XF.out w4 B4.out;have O2W:=hid (O2.out w4 B4.out);clear h4 b4 O1 O2 e0 e1;go_wp2_with fail
        (with_reducible refine O2W.out.mono ?_)
        rintro e w5 ⟨v5,rfl,h5,b5⟩;obtain ⟨a5,c5,e5⟩:=gq h5;obtain rfl:v5=.slice a5 nY c5:=by rw [HNY.out];simpa using e5
        clear e5;have HX5:=hid (HX4.out.up b5);have HY5:=hid h5;have B5:=hid (aP B4.out b5);clear h5 b5 O2W d0 d1 d2 d3;go_upto_region 6 with (fail)
        refine QX 7 (fun w'=>Below w5.heap.size w5 w') (by kernel_rfl) (jm0 _ _).drew ?_;intro hH;have XG:Hid (∀ W:World,Below w5.heap.size w5 W->W.cell? ⟨S,0,none⟩=some (.slice am nm cm)/\W.cell? ⟨S,1,none⟩=some (.slice ab nb cb)/\W.cell? ⟨S+1,0,none⟩=some (.slice bm mm dm)/\W.cell? ⟨S+1,1,none⟩=some (.slice bb mb db)):=fun W hW=>XF.out W (aP B5.out hW)
        refine ig 2 (v:=?_) rfl (by kernel_rfl) hH (by rfl) ?_ ?_;rotate_left
        · (intro wv hSw;obtain ⟨d0,d1,d2,d3⟩:=XG.out wv hSw;go_simp;try with_reducible rfl)
        try simp only [Act.put,jlk,jlq,jlx]
        refine ig 3 (v:=?_) rfl (by kernel_rfl) hH (by rfl) ?_ ?_;rotate_left
        · (intro wv hSw;obtain ⟨d0,d1,d2,d3⟩:=XG.out wv hSw;go_simp;try with_reducible rfl)
        try simp only [Act.put,jlk,jlq,jlx]
        obtain ⟨y,hy0⟩:∃ y,y=w5.drew:=⟨_,rfl⟩;rw [<- hy0] at hH;rw [<- hy0];clear hy0;refine q01 (i:=0) rfl (by kernel_rfl) (fun KQ hK=>?_);go_simp;go_at_call 28
        (with_reducible refine (Cv 2 ⟨#[]⟩ _).mono ?_)
        rintro e y1 ⟨p4,he,hp4,hk4,hb⟩;have he:e=.returned (.agg #[.int .i64 2,.int .i64 2,.string ⟨#[]⟩,.string ⟨#[]⟩,.string ⟨#[]⟩,.string ⟨#[]⟩,.string ⟨#[]⟩,.slice none 0 0,.slice none 0 0,.slice (some ⟨p4,0,none⟩) 1 1,.slice none 0 0]):=he;subst he;have hH1:=aP hH hb;have K4:=hid hk4;clear hb hk4;refine hK.out _ _ (fun _ _=>hH1) (fun hH2=>?_);clear hH1;clear hK KQ hH;have hH:=hH2 (by decide) (by kernel_rfl);clear hH2;try simp only [Act.put,jlk,jlq,jlx]
        refine q01 (i:=1) rfl (by kernel_rfl) (fun KQ hK=>?_);go_simp;have hx:Rd (·<y1.heap.size) y1 jB.d [.int .i64 2,.int .i64 2,.string ⟨#[]⟩,.string ⟨#[]⟩,.string ⟨#[]⟩,.string ⟨#[]⟩,.string ⟨#[]⟩,.slice none 0 0,.slice none 0 0,.slice (some ⟨p4,0,none⟩) 1 1,.slice none 0 0]:=tJ 2 2 ⟨#[]⟩ (jF K4.out _ K4.out.lt);have hr:=ay.jd0 (T:=48) (k:=11) (ok:=(·<y1.heap.size)) (fun b hb=>hb) rfl hx;obtain ⟨g6,hf⟩:∃ g,g=y1.heap.size:=⟨_,rfl⟩;obtain ⟨y2,hN⟩:∃ y2,y2=y1.alloc (.cells #[.int .i64 2,.int .i64 2,.string ⟨#[]⟩,.string ⟨#[]⟩,.string ⟨#[]⟩,.string ⟨#[]⟩,.string ⟨#[]⟩,.slice none 0 0,.slice none 0 0,.slice (some ⟨p4,0,none⟩) 1 1,.slice none 0 0] 48):=⟨_,rfl⟩;have hb2:Below y1.heap.size y1 y2:=by rw [hN];exact (jm0 _ _).alloc (jm1 _) _
        rw [<- hN] at hr;have hr2:ay 48 11 (·<y1.heap.size) (y1.heap.size+1) y1 [jB.d] [[.int .i64 2,.int .i64 2,.string ⟨#[]⟩,.string ⟨#[]⟩,.string ⟨#[]⟩,.string ⟨#[]⟩,.string ⟨#[]⟩,.slice none 0 0,.slice none 0 0,.slice (some ⟨p4,0,none⟩) 1 1,.slice none 0 0]] (.slice (some ⟨g6,0,none⟩) 1 1) y2:=by rw [hf];exact hr
        have HR2:=hid hr2;rw [<- hN,<- hf];have hH1:=aP hH hb2;have HH1:=hid hH;have jlj:=hid hb2;clear hN hf hr hr2 hb2 hx;refine hK.out _ _ (fun _ _=>hH1) (fun hH2=>?_);clear hH1;clear hK KQ hH;have hH:=hH2 (by decide) (by kernel_rfl);clear hH2;try simp only [Act.put,jlk,jlq,jlx]
        refine q01 (i:=4) rfl (by kernel_rfl) (fun KQ hK=>?_);refine nT (n:=1) (m:=mb) rfl (.tmp 34) (.tmp 36) 22 rfl iB _ 192 Tryz.underlying22 xS Kv Kw Bv rfl (by decide) HR2.out (fun b hb=>hb) (.slice bb mb db) (((HBY.out y2 (aP B5.out hH)).2).weaken (fun b hb=>Or.inl (jm3 hb (jm2 B5.out.size HH1.out.size)))) (fun rs ok' h=>uI (l:=l2) h) rfl HLM.out (by omega) (by decide) rfl rfl ?_;intro a6 c6 Uk y3 hr hg;have hH1:Below w5.heap.size w5 y3:=hH.grown hg hH.size (fun g hgg=>jm2 HH1.out.size (HR2.out.own.lt g hgg).1);have je1:Rd (·<y3.heap.size) y3 (fC (jB::l2)) [.slice a6 (1+mb) c6]:=Rd.keep (fun b _ hlt=>⟨hlt,rfl⟩) _ _ (show Rd _ y3 (.sl 11 ([jB.d]++l2.map ah.d)) [.slice a6 (1+mb) c6] from hr.rd);have O3W:=hid (O3.out y3 (.slice a6 (1+mb) c6) je1);clear hr hg je1;refine hK.out _ _ (fun _ _=>hH1) (fun hH2=>?_);clear hH1;clear hK KQ hH;have hH:=hH2 (by decide) (by kernel_rfl);clear hH2;try simp only [Act.put,jlk,jlq,jlx]
        refine q01 (i:=5) rfl (by kernel_rfl) (fun KQ hK=>?_);go_simp;have hH1:=hH;refine hK.out _ _ (fun _ _=>hH1) (fun hH2=>?_);clear hH1;clear hK KQ hH;have hH:=hH2 (by decide) (by kernel_rfl);clear hH2;try simp only [Act.put,jlk,jlq,jlx]
        refine q01 (i:=6) rfl (by kernel_rfl) (fun KQ hK=>?_);go_simp;go_at_call 21
        (with_reducible refine O3W.out.mono ?_)
        rintro e w6 ⟨v6,rfl,h6,b6⟩;obtain ⟨a7,c7,e7⟩:=gq h6;obtain rfl:v6=.slice a7 nZ c7:=by rw [HNZ.out];simpa using e7
        clear e7;have hH1:=aP hH b6;have HZ6:=hid h6;clear h6 b6 O3W;refine hK.out _ _ (fun _ _=>hH1) (fun hH2=>?_);clear hH1;clear hK KQ hH;have hH:=hH2 (by decide) (by kernel_rfl);clear hH2;try simp only [Act.put,jlk,jlq,jlx]
        refine q01 (i:=7) rfl (by kernel_rfl) (fun KQ hK=>?_);go_simp;refine hK.out _ _ (fun h=>absurd rfl h) (fun _=>?_);clear hK KQ;try simp only [Act.put,jlk,jlq,jlx]
        refine Gp (by kernel_rfl) ?_ _;have HX6:=hid (HX5.out.up hH);have HY6:=hid (HY5.out.up hH);have B6:=hid (aP B5.out hH);clear hH;go_upto_region 7 with (fail)
        have q1:decide ((1:Int)<=(nZ:Int))=true:=by have:=HZ1.out;simp;omega
        obtain ⟨iS,Yd,Kl,Km,Kn⟩:=info_parts PI;have hYL:=HYL.out;have hZL:=HZL.out;have HLY:Hid ((PY.map Sl.d).length=nY):=by show _=_;rw [jm6];exact HNY.out.symm
        have HLZ:Hid ((PZ.map Sl.d).length=nZ):=by show _=_;rw [jm6];exact HNZ.out.symm
        have Xq:Hid (∀ (W:World) (v1 v2:Value),Rd (·<W.heap.size) W (.sl 2 (PX.map Sl.d)) [v1]->Rd (·<W.heap.size) W (.sl 2 (PX.map Sl.d)) [v2]->Calls Tryz.prog 20 #[v1,v2] W (dN (.bool true) W)):=fun W v1 v2 h1 h2=>Fy PX v1 v2 W h1 h2 (by rw [je0.out,List.length_append,<- HNY.out,<- HNZ.out];have:=HYL.out;have:=HZL.out;omega)
        obtain ⟨g7,QA⟩:∃ g,g=w6.heap.size:=⟨_,rfl⟩;have Yh:=ay.emp 50 2 (·<w6.heap.size) w6;obtain ⟨w7,hw7⟩:∃ w7,w7=w6.alloc (.cells #[] 50):=⟨_,rfl⟩;rw [<- hw7,<- QA] at Yh;have b7:Below w6.heap.size w6 w7:=by rw [hw7];exact (jm0 _ _).alloc (jm1 _) _
        have HR7:=hid Yh;have HY7:=hid (HY6.out.aY b7);have YE:=hid b7;have HG7:Hid (w6.heap.size<=g7):=by show _<=_;omega
        clear Yh b7;go_wp2_with (first | (at_builtin;rw [<- hw7,<- QA];refine JM (n:=0) (m:=nY) (by rfl) (.tmp 45) (.tmp 46) 41 rfl iS _ 48 Tryz.underlying41 Yd Kl Km Kn rfl (by decide) HR7.out (fun b hb=>by rw [QA] at hb;exact hb) (.slice a5 nY c5) (HY7.out.weaken (fun b hb=>Or.inl (by rw [QA];exact hb))) (fun rs ok' h=>JO (l:=PY) h) rfl HLY.out (by omega) (by decide) rfl rfl ?_) | fail)
        intro a8 c8 Fh w8 Ik Ui;have Ik:ay 50 2 (·<w6.heap.size) w8.heap.size w6 (PY.map Sl.d) Fh (.slice a8 nY c8) w8:=by simpa using Ik
        have HR8:=hid Ik;have HZ8:=hid (HZ6.out.aY Ik.aI);clear Ik Ui;go_wp2_with (first | (at_builtin;refine JM (n:=nY) (m:=nZ) (by rfl) (.tmp 47) (.tmp 48) 41 rfl iS _ 48 Tryz.underlying41 Yd Kl Km Kn rfl (by decide) HR8.out (fun b hb=>hb) (.slice a7 nZ c7) (HZ8.out.weaken (fun b hb=>Or.inl hb)) (fun rs ok' h=>JO (l:=PZ) h) HLY.out HLZ.out (by omega) (by decide) rfl rfl ?_) | fail)
        intro a10 c10 jjk oW Ta jjq;have hrd:Rd (·<oW.heap.size) oW (.sl 2 (PX.map Sl.d)) [.slice a10 (nY+nZ) c10]:=by rw [je0.out,List.map_append];exact Rd.keep (fun b _ hlt=>⟨hlt,rfl⟩) _ _ Ta.rd
        have SC:=hid (Xq.out oW (.slice a4 nX c4) (.slice a10 (nY+nZ) c10) (HX6.out.up Ta.aI) hrd);have jjx:=hid (aP (aP S9.out B6.out) Ta.aI);clear Ta jjq hrd;go_wp2_with fail
        (with_reducible refine SC.out.mono ?_)
        rintro e w11 ⟨rfl,b11⟩;have je2:=hid (aP jjx.out b11);have AW:=hid (Cw w11 (pX.out _ je2.out));clear b11 SC;go_wp2_with fail
        (with_reducible refine AW.out.mono ?_)
        rintro e w12 ⟨rfl,b12⟩;have HF:=hid (aP je2.out b12);clear b12;go_wp2;go_ret;exact ⟨rfl,HF.out⟩
end Go.Proofs.YtkfnkeflalcphaaGreatDoor

