/- Contract of count.Numbers. -/
import Derived.Test.YtlbioncagkkkoaaGreatDoorKPlVs
import Derived.Test.YtlbioncagkkkoaaGreatDoorKRtO
import Derived.Deep.RegionHeld3
set_option maxHeartbeats 4000000
set_option maxRecDepth 100000
open Go.Lib (hid)
namespace Go.Proofs.YtlbioncagkkkoaaGreatDoor
open Go.RowKit
set_option linter.unusedVariables false
set_option linter.unusedSimpArgs false
structure Nu2 (q:Pk) (U:Nat) (out:List Nm) (v:Value) (rows:List (List Value)) (wr:World):Prop where
 bC:CB q.tC q.pC [.map (some q.pM)] wr
 bK:CB q.tK q.pK [q.cnt] wr
 bO:CB q.tO q.pO [v] wr
 own:wr.ownsRow q.N 49 4 v out.length rows.flatten
 red:RdL (fun b=>q.N<=b/\v.ownBlock≠some b/\b<U) wr (out.map Nm.d) rows
 len:∀ r∈rows,r.length=4
 ltU:U<=wr.heap.size
 ltN:q.N<=U
 oU:∀ g,v.ownBlock=some g->g<U
 pt:PT wr
theorem NuB.two {q:Pk} {B U:Nat} {s:Ns} {v:Value} {nn:Nat} {rows:List (List Value)} {wr:World} (h:NuB q B U s v nn rows wr):Nu2 q U s.out v rows wr:=
 ⟨h.bC,h.bK,h.bO,h.own,h.red,h.len,h.ltU,h.ltN,h.oU,h.pt⟩
section
variable {q:Pk} {B U:Nat} {out:List Nm} {v:Value} {rows:List (List Value)} {wr w':World}
theorem Nu2.up (h:Nu2 q U out v rows wr) {U':Nat} (h1:U<=U') (h2:U'<=wr.heap.size):Nu2 q U' out v rows wr:=
 {h with red:=RdL.keep (fun b hb _=>⟨⟨hb.1,hb.2.1,by omega⟩,rfl⟩) _ _ h.red,ltU:=h2,ltN:=Nat.le_trans h.ltN h1,oU:=fun g hg=>Nat.lt_of_lt_of_le (h.oU g hg) h1 }
theorem Nu2.grown (h:Nu2 q U out v rows wr) (hg:wr.grownBy w' none):Nu2 q U out v rows w':=
 {bC:=q04 h.bC hg (by simp),bK:=q04 h.bK hg (by simp),bO:=q04 h.bO hg (by simp)
  own:=h.own.kept hg (by cases v.ownBlock<;>simp),red:=RdL.keep (fun b hb hlt=>⟨hb,hg.block b hlt (by simp)⟩) _ _ h.red
  len:=h.len,ltU:=Nat.le_trans h.ltU hg.size,ltN:=h.ltN,oU:=h.oU,pt:=h.pt.grown hg (by simp) }
theorem Nu2.drew (h:Nu2 q U out v rows wr):Nu2 q U out v rows wr.drew:=h.grown ⟨rfl,rfl,rfl,Nat.le_refl _,fun _ _ _=>rfl⟩
theorem Nu2.maps (h:Nu2 q U out v rows wr) (ok:q.ok B) (hg:wr.grownBy w' (some q.pM)):Nu2 q U out v rows w':=by
 obtain ⟨o1,o2,o3,o4,o5,o6,o7,o8⟩:=ok
 have hN:=h.ltN
 have ne:∀ p,p≠q.pM->some p≠some q.pM:=fun p hp e=>hp (Option.some.inj e)
 exact
 {bC:=q04 h.bC hg (ne _ (by omega)),bK:=q04 h.bK hg (ne _ (by omega)),bO:=q04 h.bO hg (ne _ (by omega))
  own:=h.own.kept hg (.inr (fun e=>by have:=(h.own.lt _ e).1;omega)),red:=RdL.keep (fun b hb hlt=>⟨hb,hg.block b hlt (ne _ (by omega))⟩) _ _ h.red
  len:=h.len,ltU:=Nat.le_trans h.ltU hg.size,ltN:=h.ltN,oU:=h.oU,pt:=h.pt.grown hg (ne _ (by omega)) }
theorem Nu2.put (h:Nu2 q U out v rows wr) (ok:q.ok B) {x:Nm} {vl v':Value} {o:Obj} (hl:Rd (U<=·) wr (q0w x.line) [vl]) (hg:(wr.alloc o).grownBy w' v.ownBlock)
  (hown:w'.ownsRow q.N 49 4 v' (out.length+1) (rows.flatten++[.string x.id,.string x.kind,.string x.val,vl])) (hat:v'.ownBlock=v.ownBlock\/v'.ownBlock=some (wr.heap.size+1)) :
  Nu2 q w'.heap.size (out++[x]) v' (rows++[[.string x.id,.string x.kind,.string x.val,vl]]) (w'.setCell ⟨q.pO,0,none⟩ v'):=by
 obtain ⟨o1,o2,o3,o4,o5,o6,o7,o8⟩:=ok
 have hN:=h.ltN
 have hU:=h.ltU
 have hs:=hg.size
 rw [World.size_alloc] at hs
 have hlt:∀ g,v.ownBlock=some g->q.N<=g/\g<U:=fun g e=>⟨(h.own.lt g e).1,h.oU g e⟩
 have hh:∀ b,b<wr.heap.size->v.ownBlock≠some b->w'.heap[b]?=wr.heap[b]?:=fun b hb hne=>
  (hg.block b (by rw [World.size_alloc];omega) (fun e=>hne e.symm)).trans (Below.heap_alloc _ _ b hb)
 have fa:∀ b,b≠q.pO->(w'.setCell ⟨q.pO,0,none⟩ v').heap[b]?=w'.heap[b]?:=fun b hb=>Below.heap_setCell w' ⟨q.pO,0,none⟩ v' b hb
 have fb:∀ b,b<q.N->b≠q.pO->(w'.setCell ⟨q.pO,0,none⟩ v').heap[b]?=wr.heap[b]?:=fun b hb hne=>(fa b hne).trans (hh b (by omega) (fun e=>by have:=hlt b e;omega))
 have hk:w'.grownBy (w'.setCell ⟨q.pO,0,none⟩ v') (some q.pO):=⟨rfl,rfl,rfl,by simp [World.setCell],fun b hb hne=>fa b (fun e=>hne (by rw [e]))⟩
 have ne:∀ p,p≠q.pO->some p≠some q.pO:=fun p hp e=>hp (Option.some.inj e)
 have no:∀ p,p<q.N->some p≠v.ownBlock:=fun p hp e=>by have:=hlt p e.symm;omega
 have hvb:∀ g,v'.ownBlock=some g->g<w'.heap.size:=fun g e=>(hown.lt g e).2
 have hO:CB q.tO q.pO [v] w':=(hh _ (by omega) (fun e=>by have:=hlt _ e;omega)).trans h.bO
 have hv':∀ b,b<wr.heap.size->v.ownBlock≠some b->v'.ownBlock≠some b:=by
  intro b hb hne
  rcases hat with e | e
  ·rw [e];exact hne
  ·rw [e];intro h;have:=Option.some.inj h;omega
 exact
 {bC:=(fb _ (by omega) (by omega)).trans h.bC,bK:=(fb _ (by omega) (by omega)).trans h.bK
  bO:=cb_set hO 0 v'
  own:=by
   rw [List.length_append,List.flatten_append]
   exact q1g (by simpa using hown) ⟨q.pO,0,none⟩ v' (fun e=>by have h9:q.N<=q.pO:=(hown.lt _ e).1;omega)
  red:=by
   show RdL _ _ ((out++[x]).map Nm.d) _
   rw [List.map_append]
   refine RdL.app (RdL.keep (fun b hb hlt'=>⟨⟨hb.1,hv' b hlt' hb.2.1,by omega⟩,(fa b (by omega)).trans (hh b hlt' hb.2.1)⟩) _ _ h.red) (RdL.one ?_)
   refine Rd.keep (fun b (hb:U<=b) hlt'=>?_) _ _ (Nm.mk_ x hl)
   have hne:v.ownBlock≠some b:=fun e=>by have:=hlt b e;omega
   exact ⟨⟨by omega,hv' b hlt' hne,by omega⟩,(fa b (by omega)).trans (hh b hlt' hne)⟩
  len:=by
   intro r hr
   rcases List.mem_append.1 hr with hr | hr
   ·exact h.len r hr
   ·simp at hr;subst hr;rfl
  ltU:=by simp [World.setCell],ltN:=by omega,oU:=hvb
  pt:=((h.pt.grown (World.grownBy_alloc wr o none) (by simp)).grown hg (no _ (by omega))).grown hk (ne _ (by omega)) }
theorem num_set {wr w':World} {q:Pk} {nn:Nat} {f:ByteArray->Int} {o:Obj} {v v':Value} (ok:q.ok B) (h:NumAt wr q.pM nn f) (hg:(wr.alloc o).grownBy w' v.ownBlock) (hv:∀ g,v.ownBlock=some g->q.N<=g):NumAt (w'.setCell ⟨q.pO,0,none⟩ v') q.pM nn f:=by
 obtain ⟨o1,o2,o3,o4,o5,o6,o7,o8⟩:=ok
 have hk:w'.grownBy (w'.setCell ⟨q.pO,0,none⟩ v') (some q.pO):=⟨rfl,rfl,rfl,by simp [World.setCell],fun b hb hne=>Below.heap_setCell w' ⟨q.pO,0,none⟩ v' b (fun e=>hne (by rw [e]))⟩
 exact ((h.kept (World.grownBy_alloc wr o none) (by simp)).kept hg (fun e=>by have:=hv _ e.symm;omega)).kept hk (fun e=>by have:=Option.some.inj e;omega)
end
theorem noteNs_snoc:∀ (l:List ByteArray) (j k:Nat) (x:ByteArray),l[k]?=some x->q1j j (l.take (k+1))=q1j j (l.take k)++[⟨x,notS,decS (j+k+1),[]⟩]
 | [],_,_,_,h=>by simp at h
 | y::l,j,0,x,h=>by simp at h;subst h;simp [q1j]
 | y::l,j,k+1,x,h=>by
  rw [List.take_succ_cons,List.take_succ_cons,q1j,q1j,noteNs_snoc l (j+1) k x (by simpa using h),List.cons_append,show j+1+k+1=j+(k+1)+1 by omega]
theorem noteNs_len:∀ (l:List ByteArray) (j:Nat),(q1j j l).length=l.length
 | [],_=>rfl
 | _::l,j=>by rw [q1j,List.length_cons,List.length_cons,noteNs_len l]
theorem noteG_len (defs:List ByteArray):∀ (l:List Inl) (out:List ByteArray),(noteG defs out l).length<=out.length+l.length
 | [],out=>by simp [noteG]
 | x::l,out=>by
  rw [noteG]
  have:=noteG_len defs l (if x.kd=12/\q1d defs x.tx=true/\q1d out x.tx=false then out++[x.tx] else out)
  refine Nat.le_trans this ?_
  split<;>simp<;>omega
theorem notesL_len (l:List Blk):(notesL l).length<=(Blk.inlsL l).length:=by
 have:=noteG_len (defN (Blk.eachL l)) (Blk.inlsL l) []
 unfold notesL;simpa using this
theorem own_cap' {w:World} {B k n c m:Nat} {T:TypeId} {a:Option Addr} {xs:List Value} (h:w.ownsRow B T k (.slice a n c) m xs):m<=c/\c<=maxLen:=by
 rcases h.2 with ⟨h1,h2⟩ | ⟨g,cap,cur,h1,_,_,h2,h3,_⟩
 ·injection h1 with _ _ h3;subst h3;subst h2;exact ⟨Nat.le_refl _,Nat.zero_le _⟩
 ·injection h1 with _ _ h4;subst h4;exact ⟨h2,h3⟩
def NuR (q:Pk) (S B2:Nat) (w:World) (out:List Nm) (names:List ByteArray) (a2 vi:Value) (wr:World):Prop:=
 ∃ (j nn:Nat) (v:Value) (rows:List (List Value)) (f:ByteArray->Int),j<=names.length/\vi=.int .i64 j/\Nu2 q wr.heap.size (out++q1j 0 (names.take j)) v rows wr/\NumAt wr q.pM nn f/\f notS=(j:Int)/\nn<=900000+j/\Below S w wr /\
  wr.ownsRow B2 9 1 a2 names.length (names.map Value.string)
def pkAt (S:Nat):Pk:=⟨S+1,S+2,S+3,S+4,S+5,S+6,S+7,36,79,80,82,83⟩
theorem numbers_any (l:List Blk) (vm vb:Value) (w:World) (hm:∃ a n c,vm=.slice a n c) (hb:Rd (·<w.heap.size) w (q0x l) [vb]) (hbd:Blk.bdL l) (hsz:Blk.szL l<=800000) (hln:(Blk.inlsL l).length<=800000)
  (hin:∀ b∈Blk.eachL l,infoOk b) (htx:∀ x∈Blk.inlsL l,x.tx.size<=1000000) (hPT:PT w) :
  Calls Tryz.prog 16 #[.agg #[vm,vb]] w fun e w'=>∃ v,e=.returned v/\Rd (w.heap.size<=·) w' (nmsD (q25 l)) [v]/\Below w.heap.size w w':=by
 obtain ⟨am,nm,cm,rfl⟩:=hm
 obtain ⟨ab,nb,cb,rfl⟩:=Rd.slf hb
 have HB:=hid hb
 have HBD:=hid hbd
 have HIN:=hid hin
 have HTX:=hid htx
 have HPT:=hid hPT
 have hmm:=@run_makeMap Tryz.prog
 obtain ⟨S,hS⟩:∃ S,S=w.heap.size:=⟨_,rfl⟩
 have HS:=hid hS
 clear hb hbd hin htx hPT hS
 obtain ⟨V1,hV1⟩:∃ V,V=w.alloc (.cells #[.slice am nm cm,.slice ab nb cb] 25):=⟨_,rfl⟩
 have z1:V1.heap.size=S+1:=by rw [hV1,World.size_alloc,HS.out]
 have g1:w.grownBy V1 none:=by rw [hV1];exact World.grownBy_alloc _ _ none
 obtain ⟨V2,hV2⟩:∃ V,V=V1.alloc (.cells #[.slice none 0 0] 36):=⟨_,rfl⟩
 have z2:V2.heap.size=S+2:=by rw [hV2,World.size_alloc,z1]
 have g2:V1.grownBy V2 none:=by rw [hV2];exact World.grownBy_alloc _ _ none
 obtain ⟨V3,hV3⟩:∃ V,V=V2.alloc (.cells #[.int .i64 0,.int .i64 0,.int .i64 0,.int .i64 0,.int .i64 0,.int .i64 0] 79):=⟨_,rfl⟩
 have z3:V3.heap.size=S+3:=by rw [hV3,World.size_alloc,z2]
 have g3:V2.grownBy V3 none:=by rw [hV3];exact World.grownBy_alloc _ _ none
 obtain ⟨V4,hV4⟩:∃ V,V=V3.alloc (.map #[] 0):=⟨_,rfl⟩
 have z4:V4.heap.size=S+4:=by rw [hV4,World.size_alloc,z3]
 have g4:V3.grownBy V4 none:=by rw [hV4];exact World.grownBy_alloc _ _ none
 obtain ⟨V5,hV5⟩:∃ V,V=V4.alloc (.cells #[.map (some (S+3))] 80):=⟨_,rfl⟩
 have z5:V5.heap.size=S+5:=by rw [hV5,World.size_alloc,z4]
 have g5:V4.grownBy V5 none:=by rw [hV5];exact World.grownBy_alloc _ _ none
 obtain ⟨V6,hV6⟩:∃ V,V=V5.alloc (.cells #[(pkAt S).cnt] 82):=⟨_,rfl⟩
 have z6:V6.heap.size=S+6:=by rw [hV6,World.size_alloc,z5]
 have g6:V5.grownBy V6 none:=by rw [hV6];exact World.grownBy_alloc _ _ none
 obtain ⟨V7,hV7⟩:∃ V,V=V6.alloc (.cells #[(pkAt S).vis] 83):=⟨_,rfl⟩
 have z7:V7.heap.size=S+7:=by rw [hV7,World.size_alloc,z6]
 have g7:V6.grownBy V7 none:=by rw [hV7];exact World.grownBy_alloc _ _ none
 have k1:CB 25 S [.slice am nm cm,.slice ab nb cb] V1:=by rw [hV1,HS.out];exact CB.new _ _ _
 have k2:CB 36 (S+1) [.slice none 0 0] V2:=by rw [hV2,<- z1];exact CB.new _ _ _
 have k3:CB 79 (S+2) [.int .i64 0,.int .i64 0,.int .i64 0,.int .i64 0,.int .i64 0,.int .i64 0] V3:=by rw [hV3,<- z2];exact CB.new _ _ _
 have k4:NumAt V4 (S+3) 0 (fun _=>0):=by rw [hV4,<- z3];exact NumAt.made _
 have k5:CB 80 (S+4) [.map (some (S+3))] V5:=by rw [hV5,<- z4];exact CB.new _ _ _
 have k6:CB 82 (S+5) [(pkAt S).cnt] V6:=by rw [hV6,<- z5];exact CB.new _ _ _
 have k7:CB 83 (S+6) [(pkAt S).vis] V7:=by rw [hV7,<- z6];exact CB.new _ _ _
 have gw:w.grownBy V7 none:=q05 (q05 (q05 g1 g2) (q05 g3 g4)) (q05 (q05 g5 g6) g7)
 have bw:Below S w V7:=by rw [HS.out];exact (Below.refl _ _).grown gw (Nat.le_refl _) (by simp)
 have hpw:1<S:=by rw [HS.out];exact HPT.out.1
 have ok:(pkAt S).ok (S+1):=by unfold Pk.ok pkAt;simp only;omega
 have nu:NuB (pkAt S) (S+1) V7.heap.size ns0 (.slice none 0 0) 0 [] V7:=
  {sec:=(q04 (q04 (q04 (q04 k3 g4 (by simp)) g5 (by simp)) g6 (by simp)) g7 (by simp))
   num:=⟨_,((k4.kept g5 (by simp)).kept g6 (by simp)).kept g7 (by simp),rfl,rfl,rfl,rfl⟩
   bC:=(q04 (q04 k5 g6 (by simp)) g7 (by simp))
   bK:=(q04 k6 g7 (by simp))
   bV:=k7
   bO:=(q04 (q04 (q04 (q04 (q04 k2 g3 (by simp)) g4 (by simp)) g5 (by simp)) g6 (by simp)) g7 (by simp))
   own:=q20 _ _ _ _,red:=RdL.none,len:=by simp,c6:=rfl,ltU:=Nat.le_refl _,ltN:=by show S+7<=_;omega,oU:=by simp [Value.ownBlock],pt:=HPT.out.grown gw (by simp) }
 have KD:=hid (q04 (q04 (q04 (q04 (q04 (q04 k1 g2 (by simp)) g3 (by simp)) g4 (by simp)) g5 (by simp)) g6 (by simp)) g7 (by simp))
 have HOK:=hid ok
 have HNU:=hid nu
 have HBW:=hid bw
 have HBS:=hid (show Rd (·<S) w (q0x l) [.slice ab nb cb] by rw [HS.out];exact HB.out)
 have ns1:NsB ns0 0 0:=⟨fun i=>by
  show (List.replicate 6 0).getD i 0<=0
  rw [List.getD_eq_getElem?_getD,List.getElem?_replicate]
  split<;>simp,Nat.le_refl _,Nat.le_refl _,Nat.le_refl _,Nat.le_refl _,Nat.le_refl _⟩
 have VI:Hid (Calls Tryz.prog 47 #[.slice ab nb cb,.bool true,.pointer (some ⟨S+2,0,none⟩),.pointer (some ⟨S+5,0,none⟩),.pointer (some ⟨S+1,0,none⟩),.pointer (some ⟨S+6,0,none⟩)] V7 fun e w'=>
   e=.returned (.tuple #[])/\∃ (nn':Nat) (vo':Value) (rows':List (List Value)),NuB (pkAt S) (S+1) w'.heap.size (Blk.numL true ns0 l) vo' nn' rows' w'/\NsB (Blk.numL true ns0 l) (0+Blk.szL l) nn'/\Below (S+1) V7 w'):=
  visit_any (Blk.szL l) l true (pkAt S) (S+1) 0 0 ns0 (.slice ab nb cb) (.slice none 0 0) [] V7 (Nat.le_refl _) ((HBS.out.below bw).weaken (fun b hb=>Nat.lt_succ_of_lt hb)) ok nu ns1 (by omega) HBD.out
 have Z7:=hid z7
 have HHV:=hid (And.intro hV1 (And.intro hV2 (And.intro hV3 (And.intro hV4 (And.intro hV5 (And.intro hV6 hV7))))))
 clear hV1 hV2 hV3 hV4 hV5 hV6 hV7 z1 z2 z3 z4 z5 z6 z7 g1 g2 g3 g4 g5 g6 g7 k1 k2 k3 k4 k5 k6 k7 gw bw ok nu ns1
 go_enter Tryz.func16,Tryz.ntmps16
 go_upto_region 7 with (fail)
 rw [<- HS.out]
 obtain ⟨hV1,hV2,hV3,hV4,hV5,hV6,hV7⟩:=HHV.out
 rw [show S+1+1=S+2 from rfl,show S+2+1=S+3 from rfl,show S+3+1=S+4 from rfl,show S+4+1=S+5 from rfl,show S+5+1=S+6 from rfl]
 simp only [Pk.cnt,pkAt] at hV6
 simp only [Pk.vis,pkAt] at hV7
 rw [<- hV1,<- hV2,<- hV3,<- hV4,<- hV5,<- hV6,<- hV7]
 clear hV1 hV2 hV3 hV4 hV5 hV6 hV7 HHV hmm
 have x1:=KD.out.cell 1 _ rfl
 have xV:=HNU.out.bV.cell 0 _ rfl
 unfold Pk.vis at xV
 simp only [pkAt] at xV
 go_wp2_with fail
 (with_reducible refine VI.out.mono ?_)
 rintro e w2 ⟨rfl,nn2,v2,rows2,hN2,hS2,b2⟩
 obtain ⟨f2,hf2,-,-,-,ho2⟩:=hN2.num
 have B2:=hid (HBW.out.trans (b2.mono (Nat.le_succ S)))
 have HN2:=hid hN2.two
 have KD2:Hid (CB 25 S [.slice am nm cm,.slice ab nb cb] w2):=(b2.block S (Nat.lt_succ_self S)).trans KD.out
 have hnn2:=hS2.n
 have hOl:=hS2.o
 have HF2:Hid (NumAt w2 (S+3) nn2 f2):=hf2
 have hS2z:=B2.out.size
 have NT:=hid (notes_any l (.slice am nm cm) (.slice ab nb cb) w2 ⟨_,_,_,rfl⟩ ((HBS.out.below B2.out).weaken (fun b hb=>Nat.lt_of_lt_of_le hb (by rw [HS.out];exact hS2z))) HBD.out (by omega) (by omega) HIN.out HTX.out)
 have x0:=KD2.out.cell 0 _ rfl
 have x1:=KD2.out.cell 1 _ rfl
 clear hN2 hS2 b2 hf2 xV KD VI
 go_wp2_with fail
 (with_reducible refine NT.out.mono ?_)
 rintro e w3 ⟨v3,rfl,hown3,b3⟩
 obtain ⟨a3,c3,rfl⟩:=q09 hown3
 obtain ⟨L,hL⟩:∃ L,L=notesL l:=⟨_,rfl⟩
 obtain ⟨O,hO⟩:∃ O,O=(Blk.numL true ns0 l).out:=⟨_,rfl⟩
 have HRES:Hid (q25 l=O++q1j 0 L):=by show _=_;rw [hL,hO];rfl
 have hLn:L.length<=800000:=by rw [hL];exact Nat.le_trans (notesL_len l) hln
 rw [<- hL] at hown3
 rw [<- hO] at HN2 hOl
 rw [<- hL]
 obtain ⟨B3,hB3⟩:∃ B3,B3=w2.heap.size:=⟨_,rfl⟩
 have hB37:S+7<=B3:=by rw [hB3];exact Nat.le_trans HN2.out.ltN (Nat.le_refl _)
 have hSB:S<=B3:=by omega
 rw [<- hB3] at hown3
 have R0:Hid (NuR (pkAt S) S B3 w O L (.slice a3 L.length c3) (.int .i64 0) w3):=
  ⟨0,nn2,v2,rows2,f2,Nat.zero_le _,rfl,by simpa [q1j] using (HN2.out.grown (q02 b3)).up b3.size (Nat.le_refl _),HF2.out.below b3,ho2,by omega,B2.out.trans (b3.mono (by omega)),hown3⟩
 obtain ⟨iI,hiI,hzI0,hzI1,hzI2⟩:=info_parts infoNu
 have hcap3:=own_cap' hown3
 obtain ⟨hcp,hcm⟩:=hcap3
 unfold maxLen at hcm
 have hpo:(pkAt S).pO=S+1:=rfl
 have hpw2:=hpw
 clear hown3 b3 hL hO HN2 HF2 B2 KD2 NT x0 x1 HBS HBW HNU hB3
 go_wp2
 go_loopw [20] (fun vi wr=>NuR (pkAt S) S B3 w O L (.slice a3 L.length c3) vi wr) (fun i _=>L.length-(intOf i).toNat)
 case atStart=>exact R0.out
 case round=>
  clear R0
  obtain ⟨j,nn,v,rows,f,hj,rfl,hnu,hnum,hf,hnn,hbel,how⟩:=hrel
  obtain ⟨On,hOn⟩:∃ On,On=O++q1j 0 (L.take j):=⟨_,rfl⟩
  rw [<- hOn] at hnu
  obtain ⟨m,hm⟩:∃ m,m=On.length:=⟨_,rfl⟩
  have hml:m<=1600000:=by rw [hm,hOn,List.length_append,noteNs_len,List.length_take];omega
  obtain ⟨av,cv,hv⟩:=q09 hnu.own
  rw [<- hm] at hv
  subst hv
  have HNU:=hid hnu
  have HNUM:Hid (NumAt wr (S+3) nn f):=hnum
  have HBEL:=hid hbel
  have HOW:=hid how
  have HM:=hid hm
  have HON:=hid hOn
  by_cases hlt:j<L.length
  ·obtain ⟨x,hx⟩:∃ x,L[j]?=some x:=⟨_,List.getElem?_eq_getElem hlt⟩
   obtain ⟨g,cap,hvg,-⟩:=own_form how (by omega)
   obtain ⟨rfl,rfl⟩:a3=some ⟨g,0,none⟩/\c3=cap:=by injection hvg with h1 _ h3;exact ⟨h1,h3⟩
   have cx:wr.cell? ⟨g,j,none⟩=some (.string x):=by
    have h1:=how.cells (g:=g) rfl j (.string x) (by rw [List.getElem?_map,hx];rfl)
    have e:((⟨g,0,none⟩:Addr).add j)=⟨g,j,none⟩:=by unfold Addr.add;split<;>simp_all
    rwa [e] at h1
   have hgB:=(how.lt g rfl).1
   have HON1:Hid (O++q1j 0 (L.take (j+1))=On++[⟨x,notS,decS (j+1),[]⟩]):=by
    show _=_
    rw [noteNs_snoc L 0 j x hx,hOn,List.append_assoc,Nat.zero_add]
   have CN:Hid (Calls Tryz.prog 45 #[.string ⟨#[110,111,116,101]⟩,.pointer (some ⟨S+4,0,none⟩)] wr.drew fun e w'=>e=.returned (.string (decS (j+1)))/\NumAt w' (S+3) (nn+1) (fun t=>if t=notS then ((j+1:Nat):Int) else f t)/\wr.drew.grownBy w' (some (S+3))):=
    count1_any notS (S+4) (S+3) nn j f wr.drew (by decide) (hnu.drew.bC.cell 0 _ rfl) (hnum.kept (row:=none) ⟨rfl,rfl,rfl,Nat.le_refl _,fun _ _ _=>rfl⟩ (by simp)) hf (by omega) (by unfold maxLen;omega) hnu.drew.pt (by omega) (by omega)
   have hU:=hnu.ltU
   have hN7:S+7<=wr.heap.size:=hnu.ltN
   have eK:=hnu.bK.cell 0 _ rfl
   have eO:=hnu.bO.cell 0 _ rfl
   unfold Pk.cnt at eK
   simp only [pkAt] at eK eO
   clear hnu hnum hbel how hm hOn hx hvg hf
   go_upto_region 11 with (fail)
   go_region_law (first
    | (go_simp;go_at_call 45;(with_reducible refine CN.out.mono ?_);rintro e w6 ⟨rfl,hN6,hg6⟩;have V6:=HNU.out.drew.maps HOK.out hg6;have eO6:=V6.bO.cell 0 _ rfl;simp only [pkAt] at eO6;have eO6b:∀ o,(w6.alloc o).cell? ⟨S+1,0,none⟩=some (.slice av m cv):=fun o=>past eO6 o)
    | (refine step_append_lies _ rfl (.tmp 24) (.tmp 29) 36 rfl (S+7) 49 iI _ 4 72 Tryz.underlying36 hiI hzI0 hzI1 hzI2 rfl (by decide) (.slice av m cv) m rows.flatten rfl ((by have h9:=V6.own;rw [<- HM.out] at h9;exact h9:w6.ownsRow (S+7) 49 4 (.slice av m cv) m rows.flatten).alloc _) ⟨w6.heap.size,0,none⟩ 1 1 [.string x,.string notS,.string (decS (j+1)),.slice none 0 0] rfl rfl (q0o w6 [.string x,.string notS,.string (decS (j+1)),.slice none 0 0] _) (by intro u hu;simp at hu;rcases hu with rfl | rfl | rfl | rfl<;>rfl) (by omega) (by unfold maxLen;omega) (by omega) (by have:=hg6.size;simp at this ⊢;omega) (w6.heap.size+1) (by simp) ?_;intro g7 c7 w7 hown7 hg7 hat7 hlt7;have hne7:some (S+1)≠(Value.slice av m cv).ownBlock:=(fun e=>by have:=(V6.own.lt _ e.symm).1;simp only [pkAt] at this;omega);have O7:CB 36 (S+1) [.slice av m cv] w7:=(hg7.block _ (by have:=hg6.size;simp at this ⊢;omega) hne7).trans ((Below.heap_alloc w6 _ (S+1) (by have:=hg6.size;simp at this;omega)).trans V6.bO);have x7:=O7.cell 0 _ rfl;have y7:=q1c O7 0))
   all_goals
    have P7:=V6.put HOK.out (x:=⟨x,notS,decS (j+1),[]⟩) (vl:=.slice none 0 0) (Rd.nil_mk _ _ _) hg7 (by rw [<- HM.out];exact hown7) (hat7.elim (fun e=>.inl (by rw [e];rfl)) (fun e=>.inr (by rw [e];rfl)))
    have N7:=num_set (v':=.slice (some ⟨g7,0,none⟩) (m+1) c7) HOK.out hN6 hg7 (fun b hb=>(V6.own.lt b hb).1)
    have b7:Below S w (w7.setCell ⟨S+1,0,none⟩ (.slice (some ⟨g7,0,none⟩) (m+1) c7)):=by
     have h1:Below S w w6:=HBEL.out.drew.grown hg6 (by simp;omega) (fun b hb=>by have:=Option.some.inj hb;omega)
     have h2:=(h1.alloc (by have:=h1.size;have:=HS.out;omega) _).grown hg7 (by have:=h1.size;have:=HS.out;simp;omega) (fun b hb=>by have h9:S+7<=b:=(V6.own.lt b hb).1;omega)
     exact h2.setCell (p:=⟨S+1,0,none⟩) (Nat.le_succ S) _
    have o7:(w7.setCell ⟨S+1,0,none⟩ (.slice (some ⟨g7,0,none⟩) (m+1) c7)).ownsRow B3 9 1 (.slice (some ⟨g,0,none⟩) L.length c3) L.length (L.map Value.string):=by
     have hgb:=(HOW.out.lt g rfl)
     have h1:=HOW.out.drew.kept hg6 (.inr (by simp [Value.ownBlock];omega))
     have h2:=(h1.alloc (.cells #[.string x,.string notS,.string (decS (j+1)),.slice none 0 0] 49)).kept hg7 (.inr (fun e=>by
      have h3:=V6.own
      rcases h3.2 with ⟨h4,_⟩ | ⟨g9,cap9,cur9,h4,_,h5,_⟩
      ·simp only [Value.slice.injEq] at h4;rw [h4.1] at e;simp [Value.ownBlock] at e
      ·have h6:g9=g:=by
        have h7:(Value.slice av m cv).ownBlock=some g9:=by rw [h4];rfl
        rw [h7] at e;exact (Option.some.inj e).symm
       subst h6
       rcases h1.2 with ⟨h8,_⟩ | ⟨g8,cap8,cur8,h8,_,h10,_⟩
       ·cases h8
       ·injection h8 with h8 _ _
        injection h8 with h8
        injection h8 with h8 _ _
        subst h8
        rw [h5] at h10
        injection h10 with h10
        injection h10 with _ h11
        exact absurd h11 (by decide)))
     exact q1g h2 _ _ (by simp [Value.ownBlock];omega)
    have HR:Hid (NuR (pkAt S) S B3 w O L (.slice (some ⟨g,0,none⟩) L.length c3) (.int .i64 ((j+1:Nat):Int)) (w7.setCell ⟨S+1,0,none⟩ (.slice (some ⟨g7,0,none⟩) (m+1) c7))):=by
     refine ⟨j+1,nn+1,.slice (some ⟨g7,0,none⟩) (m+1) c7,rows++[[.string x,.string notS,.string (decS (j+1)),.slice none 0 0]],_,by omega,rfl,?_,N7,?_,by omega,b7,o7⟩
     ·rw [HON1.out];exact P7.up (by simp [World.setCell]) (Nat.le_refl _)
     ·simp
    clear P7 N7 b7 o7 V6 hN6 hg6 hg7 hown7 hat7 O7
    go_wp2
    go_roundw
    case rel=>exact HR.out
    case measure=>simp [intOf];omega
  ·have hjl:j=L.length:=by omega
   subst hjl
   rw [List.take_length,<- HRES.out] at HON
   have eO:=hnu.bO.cell 0 _ rfl
   simp only [pkAt] at eO
   clear hnu hnum hbel how hm hOn hf
   go_wp2
   go_ret
   have hSe:=HS.out
   refine ⟨.slice av m cv,rfl,?_,?_⟩
   ·have h1:=HNU.out.red
    have h2:=HNU.out.own
    rw [HON.out] at h1 h2
    refine Rd.sl_own (rows:=rows) (B:=S+7) (e:=49) ?_ (RdL.keep (fun b hb _=>⟨by have:=hb.1;simp only [pkAt] at this;omega,rfl⟩) _ _ h1) HNU.out.len (fun g hg=>by have h3:S+7<=g:=(HNU.out.own.lt g hg).1;omega)
    have h3:=HM.out
    rw [HON.out] at h3
    rw [List.length_map]
    rw [<- h3] at h2 ⊢
    exact h2
   ·rw [<- HS.out];exact HBEL.out
end Go.Proofs.YtlbioncagkkkoaaGreatDoor
