/- tree.Each: all blocks, in document order, handed to a loop's body. -/
import Derived.RangeFuncNested
import Derived.RangeFuncBound
import Derived.RangeFuncCalls
import Derived.RangeFuncLeaves
import Derived.Shelf.Abstract
import Derived.Shelf.RegionOpen
import Derived.WalkKit
import Derived.OwnWalkIn
import Derived.TacticsInMore
import Derived.LoopNIn
import Derived.LoopIn
import Derived.Sort.CutIn
import Derived.Test.YtlbioncagkkkoaaGreatDoorKInlines
set_option maxHeartbeats 4000000
set_option maxRecDepth 100000
open Go.Lib (hid)
namespace Go.Proofs.YtlbioncagkkkoaaGreatDoor
open Go.RowKit Go.Shelf
set_option linter.unusedVariables false
set_option linter.unusedSimpArgs false
attribute [local go_sem] Oper.semAt_some
theorem roundAny {F:Fence} (hd:F.depth=none) {m m':Nat} {P:Program} {l:Nat} {f:FuncId} {tmps:Array Value} {assign body:Code} {w:World} {R:Ending->World->Prop}
    (h:RoundIn F m P l f tmps assign body w R):RoundIn F m' P l f tmps assign body w R:=⟨h.1,fun c cs _=>h.2 c cs (fun d h=>by rw [hd] at h;cases h)⟩
theorem yieldAny {F:Fence} (hd:F.depth=none) {m:Nat} (m':Nat) {P:Program} {l:Nat} {args:Array Value} {W:World} {R:Ending->World->Prop} (h:YieldAt F m P l args W R):YieldAt F m' P l args W R:=by
  obtain ⟨fn,tmps,assign,body,hy,hR⟩:=h
  exact ⟨fn,tmps,assign,body,hy,roundAny hd hR⟩
theorem wide_skip {P:Program} {ops:Array Oper} {o:Oper} {a:Act} {w:World} {K':Act->World->Prop} {X:Prop} (hw:Region.wanted o (yielded ops a.tmps)=false) (h:K' (a.put o.dst undef) w) :
    (if Region.wanted o (yielded ops a.tmps)=true then X else (∀ f,o.about P w a.eval=some f->Fence.wide.fn f)/\K' (a.put o.dst undef) w):=by
  rw [hw];exact ⟨fun _ _=>trivial,h⟩
mutual
def Blk.each:Blk->List Blk
  | .mk k lv i t d ti a li ks=>.mk k lv i t d ti a li ks::Blk.eachL ks
def Blk.eachL:List Blk->List Blk
  | []=>[]
  | x::l=>x.each++Blk.eachL l
end
theorem Blk.eachL_app (l m:List Blk):Blk.eachL (l++m)=Blk.eachL l++Blk.eachL m:=by
  induction l with
  | nil=>rw [Blk.eachL];rfl
  | cons x l ih=>rw [List.cons_append,Blk.eachL,Blk.eachL,ih,List.append_assoc]
theorem Blk.eachL_take (l:List Blk) (k:Nat) (x:Blk) (h:l[k]?=some x):Blk.eachL (l.take (k+1))=Blk.eachL (l.take k)++x.each:=by
  rw [List.take_add_one,h,Blk.eachL_app]
  simp [Blk.eachL]
theorem Blk.eachL_cut (l:List Blk) (k:Nat) (x:Blk) (h:l[k]?=some x):Blk.eachL l=Blk.eachL (l.take k)++(x.each++Blk.eachL (l.drop (k+1))):=by
  rw [<- List.append_assoc,<- Blk.eachL_take l k x h,<- Blk.eachL_app,List.take_append_drop]
structure BV where
  kd:Int
  lv:Int
  i:ByteArray
  t:ByteArray
  d:ByteArray
  ti:ByteArray
  at_:At
  li:List Inl
  ks:List Blk
  vc:Value
  vp:Value
  vl:Value
  vk:Value
def BV.blk (x:BV):Blk:=.mk x.kd x.lv x.i x.t x.d x.ti x.at_ x.li x.ks
def BV.enc (x:BV):Value:=.agg #[.int .i64 x.kd,.int .i64 x.lv,.string x.i,.string x.t,.string x.d,.string x.ti,.string x.at_.id,x.vc,x.vp,x.vl,x.vk]
abbrev BW (B0:Nat) (w0:World) (P:Blk->Prop):Type:={ x:BV // BlR (·<B0) w0 x.at_ x.li x.ks x.vc x.vp x.vl x.vk/\P x.blk }
def q1y {B0:Nat} {w0:World} {P:Blk->Prop} (l:List (BW B0 w0 P)):List Blk:=l.map fun x=>x.1.blk
theorem blksOf_app {B0:Nat} {w0:World} {P:Blk->Prop} (l m:List (BW B0 w0 P)):q1y (l++m)=q1y l++q1y m:=by unfold q1y;rw [List.map_append]
theorem blksOf_len {B0:Nat} {w0:World} {P:Blk->Prop} (l:List (BW B0 w0 P)):(q1y l).length=l.length:=by unfold q1y;rw [List.length_map]
structure KpOk (B0:Nat) (Kp:World->World->Prop):Prop where
  below:∀ {W W':World},Kp W W'->Below B0 W W'
  yld:∀ {W W':World} {b:Nat} {v:Value},Kp W W'->Box1 b v 106 W->Box1 b v 106 W'
  wlk:∀ {W W':World} {b:Nat} {v:Value},Kp W W'->Box1 b v 145 W->Box1 b v 145 W'
theorem BlCells.same {w w':World} {b o:Nat} {k lv:Int} {i t d ti id:ByteArray} {vc vp vl vk:Value} (h:BlCells w b o k lv i t d ti id vc vp vl vk) (hb:w'.heap[b]?=w.heap[b]?):BlCells w' b o k lv i t d ti id vc vp vl vk:=by
  obtain ⟨h0,h1,h2,h3,h4,h5,h6,h7,h8,h9,h10⟩:=h
  constructor<;>(rw [q07 hb];assumption)
def eachF (by_ bw:Nat):Value:=.func (.func 112) #[] #[.pointer (some ⟨by_,0,none⟩),.pointer (some ⟨bw,0,none⟩)]
structure EB (l by_ bw:Nat) (W:World):Prop where
  yld:Box1 by_ (.func (.yield l) #[] #[]) 106 W
  wlk:Box1 bw (eachF by_ bw) 145 W
theorem EB.kept {l by_ bw B0:Nat} {W W':World} {Kp:World->World->Prop} (h:EB l by_ bw W) (hK:KpOk B0 Kp) (hk:Kp W W'):EB l by_ bw W':=⟨hK.yld hk h.yld,hK.wlk hk h.wlk⟩
def EaOut {B0:Nat} {w0:World} {P:Blk->Prop} (l by_ bw:Nat) (J:List (BW B0 w0 P)->World->Prop) (pre:List (BW B0 w0 P)) (bs:List Blk) (W:World):Prop:=
  ∃ q:List (BW B0 w0 P),q1y q=Blk.eachL bs/\J (pre++q) W/\Below B0 w0 W/\EB l by_ bw W
def EaRel {B0:Nat} {w0:World} {P:Blk->Prop} (l by_ bw:Nat) (J:List (BW B0 w0 P)->World->Prop) (pre:List (BW B0 w0 P)) (bs:List Blk) (vi:Value) (W:World):Prop:=
  ∃ k:Nat,k<=bs.length/\vi=.int .i64 k/\EaOut l by_ bw J pre (bs.take k) W
theorem each11_in (l B0 by_ bw N:Nat) (P:Blk->Prop) (w0:World) (Kp:World->World->Prop) (hK:KpOk B0 Kp) (J Jx:List (BW B0 w0 P)->World->Prop)
    (hJd:∀ pre W,J pre W->J pre W.drew)
    (hY:∀ (m:Nat) (pre:List (BW B0 w0 P)) (x:BW B0 w0 P) (W:World),J pre W->pre.length<N->YieldAt Fence.wide m Tryz.prog l #[x.1.enc] W fun e W'=>
      (e=.returned (.bool true)/\J (pre++[x]) W'/\Kp W W')\/(e=.returned (.bool false)/\Jx (pre++[x]) W')) (n:Nat) :
    ∀ (m:Nat) (bs:List Blk) (v:Value) (pre:List (BW B0 w0 P)) (W:World),Blk.szL bs<=n->(∀ b∈Blk.eachL bs,P b)->Rd (·<B0) w0 (q0x bs) [v]->Below B0 w0 W->EB l by_ bw W->J pre W->pre.length+(Blk.eachL bs).length<=N ->
      CallsIn Fence.wide m Tryz.prog 112 #[v,.pointer (some ⟨by_,0,none⟩),.pointer (some ⟨bw,0,none⟩)] W fun e W'=>
        (e=.returned (.bool true)/\EaOut l by_ bw J pre bs W')\/(e=.returned (.bool false)/\∃ q,q1y q <+: Blk.eachL bs/\Jx (pre++q) W'):=by
  induction n using Nat.strongRecOn with
  | _ n ih=>
    intro m bs v pre W hn hPb hrd hbel hEB hJ hN
    obtain ⟨a,cap,hv,hs⟩:=Rd.sl_open hrd
    obtain rfl:v=.slice a bs.length cap:=by simpa using hv
    have hcap:bs.length<=cap:=by simpa using hs.le
    have hll:=Blk.len_le bs
    have hmx:=hs.max
    have hdd:∀ k:Nat,(Fence.wide.depth.isSome=true->1<=k):=fun k h=>by cases h
    have HS:=hid hs
    have IH:=hid ih
    have R0:Hid (EaRel l by_ bw J pre bs (.int .i64 0) W):=⟨0,Nat.zero_le _,rfl,[],by rw [List.take_zero,Blk.eachL];rfl,by rw [List.append_nil];exact hJ,hbel,hEB⟩
    have HY:=hid hY
    have HPB:=hid hPb
    have HJD:=hid hJd
    have HKP:=hid hK
    clear hs hv hrd ih hJ hbel hEB hY hJd hK hPb
    unfold maxLen at hmx
    refine callsIn_of_wp Tryz.func112 rfl trivial ?_ rfl
    simp only [Tryz.ntmps112,List.size_toArray,List.length_cons,List.length_nil,Nat.reduceAdd,Nat.reduceSub,Array.replicate_succ,Array.replicate_zero,List.push_toArray,List.append_toArray,List.nil_append,List.cons_append]
    gi_wp2
    gi_loopw [8] (fun vi wr=>EaRel l by_ bw J pre bs vi wr) (fun i _=>bs.length-(intOf i).toNat)
    case atStart=>exact R0.out
    case round=>
      obtain ⟨k,hk,rfl,q,hq,hJq,hbq,hEq⟩:=hrel
      clear R0
      by_cases hlt:k<bs.length
      · obtain ⟨x,hx⟩:∃ x,bs[k]?=some x:=⟨_,List.getElem?_eq_getElem hlt⟩
        obtain ⟨kd,lv,i,t,d,ti,at_,li,ks⟩:=x
        obtain ⟨g,off,vc,vp,vl,vk,rfl,hok,hbl,hc,hR⟩:=q1w HS.out hx
        obtain ⟨ac,nc,cc,rfl⟩:=Rd.sl_form hR.at_.cls
        obtain ⟨ap,np,cp,rfl⟩:=Rd.sl_form hR.at_.prs
        obtain ⟨al,nl,cl,rfl⟩:=Rd.sl_form hR.line
        obtain ⟨ak,nk,ck,rfl⟩:=Rd.sl_form hR.kids
        have hsz:=Blk.szL_get bs k _ hx
        rw [Blk.sz] at hsz
        have hcut:=congrArg List.length (Blk.eachL_cut bs k _ hx)
        rw [Blk.each] at hcut
        simp only [List.length_append,List.length_cons] at hcut
        have hql:=congrArg List.length hq
        rw [blksOf_len] at hql
        obtain ⟨c0,c1,c2,c3,c4,c5,c6,c7,c8,c9,c10⟩:=hc.same (w':=wr.drew) (hbq.block g hok)
        have y0:wr.drew.cell? ⟨by_,0,none⟩=some (.func (.yield l) #[] #[]):=hEq.yld.cell
        obtain ⟨X,hXe,hXb⟩:∃ X:BW B0 w0 P,X.1.enc=.agg #[.int .i64 kd,.int .i64 lv,.string i,.string t,.string d,.string ti,.string at_.id,.slice ac nc cc,.slice ap np cp,.slice al nl cl,.slice ak nk ck]/\X.1.blk=.mk kd lv i t d ti at_ li ks:=⟨⟨⟨kd,lv,i,t,d,ti,at_,li,ks,_,_,_,_⟩,hR,HPB.out _ (by rw [Blk.eachL_cut bs k _ hx,Blk.each];simp [BV.blk])⟩,rfl,rfl⟩
        obtain ⟨fn,tmps,assign,body,hy,hRd⟩:=HY.out (m-1) (pre++q) X wr.drew (HJD.out _ _ hJq) (by simp;omega)
        rw [hXe] at hy
        have hw3:∀ W3,Kp wr.drew W3->W3.cell? ⟨bw,0,none⟩=some (eachF by_ bw)/\W3.cell? ⟨g,off+k*11+10,none⟩=some (.slice ak nk ck):=by
          intro W3 h3
          exact ⟨(HKP.out.wlk h3 hEq.wlk).cell,(hc.same (w':=W3) (((HKP.out.below h3).block g hok).trans (hbq.block g hok))).c10⟩
        unfold eachF at hw3
        have HW3:=hid hw3
        have hbq2:Below B0 w0 wr.drew:=⟨hbq.os,hbq.tape,hbq.output,hbq.size,hbq.block⟩
        have hEq2:EB l by_ bw wr.drew:=⟨hEq.yld.drew,hEq.wlk.drew⟩
        have HPF:Hid (∀ q2:List (BW B0 w0 P),q1y q2 <+: Blk.eachL ks->q1y (q++[X]++q2) <+: Blk.eachL bs):=by
          intro q2 h2
          rw [Blk.eachL_cut bs k _ hx,blksOf_app,blksOf_app,hq,Blk.each]
          obtain ⟨r,hr⟩:=h2
          refine ⟨r++Blk.eachL (bs.drop (k+1)),?_⟩
          rw [<- hr]
          simp [q1y,hXb]
        have HCK:Hid (∀ W3,J (pre++q++[X]) W3->Kp wr.drew W3->CallsIn Fence.wide (m-1) Tryz.prog 112 #[.slice ak nk ck,.pointer (some ⟨by_,0,none⟩),.pointer (some ⟨bw,0,none⟩)] W3 fun e W'=>
            ∃ b,e=.returned (.bool b)/\((b=true/\EaOut l by_ bw J pre (bs.take (k+1)) W')\/(b=false/\∃ q2,q1y q2 <+: Blk.eachL bs/\Jx (pre++q2) W'))):=by
          intro W3 h3 hk3
          refine (IH.out (Blk.szL ks) (by omega) (m-1) ks _ (pre++q++[X]) W3 (Nat.le_refl _) (fun b hb=>HPB.out b (by rw [Blk.eachL_cut bs k _ hx,Blk.each];simp [hb])) hR.kids (hbq2.trans (HKP.out.below hk3)) (hEq2.kept HKP.out hk3) h3 (by simp;omega)).mono ?_
          rintro e W' (⟨rfl,q2,h5,h6,h7,h8⟩ | ⟨rfl,q2,h5,h6⟩)
          · refine ⟨true,rfl,.inl ⟨rfl,q++[X]++q2,?_,by simpa using h6,h7,h8⟩⟩
            rw [Blk.eachL_take bs k _ hx,blksOf_app,blksOf_app,hq,h5,Blk.each]
            simp [q1y,hXb]
          · exact ⟨false,rfl,.inr ⟨rfl,_,HPF.out q2 h5,by simpa using h6⟩⟩
        have HRd:=hid hRd
        have HR:=hid hR
        have HX:=hid hx
        have HEq:=hid hEq
        have HXE:=hid hXe
        have HXB:=hid hXb
        have HQ:=hid hq
        have HBQ:=hid hbq
        clear hRd hc hR hx hEq hw3 hXe hXb hq hbq hJq hbq2 hEq2
        gi_upto_region 4 with (fail)
        gi_region_with (first
          | ((try refine ⟨hdd _,?_⟩);refine HRd.out.mono ?_;clear HRd;rintro e W3 (⟨rfl,hJ3,hk3⟩ | ⟨rfl,hx3⟩)
             rotate_left
             dsimp only
             rename_i KK hKK
             refine hKK _ _ ?_
             (try simp only [Act.put,List.setIfInBounds_toArray,List.set_cons_zero,List.set_cons_succ])
             refine wpAnyIn_take (i := 6) (oi := { dst := some 17, op := Op.unOp UnOp.not 4 (Operand.tmp 16), type := 4, pos := "tree.go:154", after := #[{ on := 5, ground := Ground.data }], guard := none }) (v := ?v6) rfl rfl (by kernel_rfl) (by kernel_rfl) (by kernel_rfl) (fun _ _ _ h => h) ⟨Or.inl ⟨by rfl, ?y6⟩, fun _ => rfl⟩ ?_
             case y6=>(intro w;go_simp;try (with_reducible rfl))
             simp only [Act.put,List.setIfInBounds_toArray,List.set_cons_zero,List.set_cons_succ]
             refine wpAnyIn_take (i := 7) (oi := { dst := some 18, op := Op.move (Operand.tmp 17), type := 4, pos := "tree.go:154", after := #[{ on := 6, ground := Ground.data }, { on := 5, ground := Ground.chain }], guard := none }) (v := ?v7) rfl rfl (by kernel_rfl) (by kernel_rfl) (by kernel_rfl) (fun _ _ _ h => h) ⟨Or.inl ⟨by rfl, ?y7⟩, fun _ => rfl⟩ ?_
             case y7=>(intro w;go_simp;try (with_reducible rfl))
             simp only [Act.put,List.setIfInBounds_toArray,List.set_cons_zero,List.set_cons_succ]
             refine wpAnyIn_take (i := 8) (oi := { dst := some 19, op := Op.load 145 (Operand.tmp 2), type := 145, pos := "tree.go:154", after := #[{ on := 7, ground := Ground.guard }], guard := some (7, false) }) (v := undef) rfl rfl (by kernel_rfl) (by kernel_rfl) (by kernel_rfl) (fun _ _ _ h => h) ⟨Or.inr ⟨by kernel_rfl, rfl⟩, fun _ => rfl⟩ ?_
             simp only [Act.put,List.setIfInBounds_toArray,List.set_cons_zero,List.set_cons_succ]
             refine wpAnyIn_take (i := 9) (oi := { dst := some 20, op := Op.move (Operand.tmp 0), type := 23, pos := "tree.go:154", after := #[{ on := 7, ground := Ground.guard }], guard := some (7, false) }) (v := undef) rfl rfl (by kernel_rfl) (by kernel_rfl) (by kernel_rfl) (fun _ _ _ h => h) ⟨Or.inr ⟨by kernel_rfl, rfl⟩, fun _ => rfl⟩ ?_
             simp only [Act.put,List.setIfInBounds_toArray,List.set_cons_zero,List.set_cons_succ]
             refine wpAnyIn_take (i := 10) (oi := { dst := some 21, op := Op.move (Operand.tmp 5), type := 3, pos := "tree.go:154", after := #[{ on := 7, ground := Ground.guard }], guard := some (7, false) }) (v := undef) rfl rfl (by kernel_rfl) (by kernel_rfl) (by kernel_rfl) (fun _ _ _ h => h) ⟨Or.inr ⟨by kernel_rfl, rfl⟩, fun _ => rfl⟩ ?_
             simp only [Act.put,List.setIfInBounds_toArray,List.set_cons_zero,List.set_cons_succ]
             refine wpAnyIn_take (i := 11) (oi := { dst := some 22, op := Op.indexAddr 23 (Operand.tmp 20) (Operand.tmp 21), type := 0, pos := "tree.go:154", after := #[{ on := 9, ground := Ground.data }, { on := 10, ground := Ground.data }, { on := 7, ground := Ground.guard }], guard := some (7, false) }) (v := undef) rfl rfl (by kernel_rfl) (by kernel_rfl) (by kernel_rfl) (fun _ _ _ h => h) ⟨Or.inr ⟨by kernel_rfl, rfl⟩, fun _ => rfl⟩ ?_
             simp only [Act.put,List.setIfInBounds_toArray,List.set_cons_zero,List.set_cons_succ]
             refine wpAnyIn_take (i := 12) (oi := { dst := some 23, op := Op.fieldAddr 53 (Operand.tmp 22) 8, type := 0, pos := "tree.go:154", after := #[{ on := 11, ground := Ground.data }, { on := 7, ground := Ground.guard }], guard := some (7, false) }) (v := undef) rfl rfl (by kernel_rfl) (by kernel_rfl) (by kernel_rfl) (fun _ _ _ h => h) ⟨Or.inr ⟨by kernel_rfl, rfl⟩, fun _ => rfl⟩ ?_
             simp only [Act.put,List.setIfInBounds_toArray,List.set_cons_zero,List.set_cons_succ]
             refine wpAnyIn_take (i := 13) (oi := { dst := some 24, op := Op.load 23 (Operand.tmp 23), type := 23, pos := "tree.go:154", after := #[{ on := 12, ground := Ground.data }, { on := 7, ground := Ground.guard }], guard := some (7, false) }) (v := undef) rfl rfl (by kernel_rfl) (by kernel_rfl) (by kernel_rfl) (fun _ _ _ h => h) ⟨Or.inr ⟨by kernel_rfl, rfl⟩, fun _ => rfl⟩ ?_
             simp only [Act.put,List.setIfInBounds_toArray,List.set_cons_zero,List.set_cons_succ]
             refine wpAnyIn_ready (rs:=[14]) (by kernel_rfl) (by simp) ?_
             refine AllReadyIn.cons (o := { dst := some 25, op := Op.call { callee := Callee.value (Operand.tmp 19), args := #[Operand.tmp 24], argTypes := #[23] }, type := 4, pos := "tree.go:154", after := #[{ on := 8, ground := Ground.data }, { on := 13, ground := Ground.data }, { on := 7, ground := Ground.chain }, { on := 7, ground := Ground.guard }], guard := some (7, false) }) rfl (fun KL hKL => ?_) AllReadyIn.nil
             refine wide_skip (by kernel_rfl) (hKL _ _ ?_)
             clear hKL KL
             simp only [Act.put,List.setIfInBounds_toArray,List.set_cons_zero,List.set_cons_succ]
             refine wpAnyIn_take (i := 15) (oi := { dst := some 26, op := Op.unOp UnOp.not 4 (Operand.tmp 25), type := 4, pos := "tree.go:154", after := #[{ on := 14, ground := Ground.data }, { on := 7, ground := Ground.guard }], guard := some (7, false) }) (v := undef) rfl rfl (by kernel_rfl) (by kernel_rfl) (by kernel_rfl) (fun _ _ _ h => h) ⟨Or.inr ⟨by kernel_rfl, rfl⟩, fun _ => rfl⟩ ?_
             simp only [Act.put,List.setIfInBounds_toArray,List.set_cons_zero,List.set_cons_succ]
             refine wpAnyIn_take (i := 16) (oi := { dst := some 27, op := Op.pick (Operand.tmp 18) (Operand.const (Value.bool true)) (Operand.tmp 26), type := 4, pos := "tree.go:154", after := #[{ on := 7, ground := Ground.data }, { on := 15, ground := Ground.data }], guard := none }) (v := ?v16) rfl rfl (by kernel_rfl) (by kernel_rfl) (by kernel_rfl) (fun _ _ _ h => h) ⟨Or.inl ⟨by rfl, ?y16⟩, fun _ => rfl⟩ ?_
             case y16=>(intro w;go_simp;try (with_reducible rfl))
             simp only [Act.put,List.setIfInBounds_toArray,List.set_cons_zero,List.set_cons_succ]
             refine wpAnyIn_done (by kernel_rfl) ?_ _
             clear hKK KK
             gi_wp2
             go_ret
             exact .inr ⟨rfl,q++[X],by simpa using HPF.out [] (by simp [q1y]),by simpa using hx3⟩
             obtain ⟨cw,ckk⟩:=HW3.out _ hk3)
          | (refine ⟨trivial,hdd _,?_⟩;refine (HCK.out _ hJ3 hk3).mono ?_;rintro e W4 ⟨b,rfl,h4⟩))
        all_goals
          rcases h4 with ⟨rfl,h4⟩ | ⟨rfl,h4⟩
          · gi_wp2
            go_roundw
            case rel=>exact ⟨k+1,by omega,by go_num,h4⟩
            case measure=>simp [intOf];omega
          · gi_wp2
            go_ret
            exact .inr ⟨rfl,h4⟩
      · have hkl:k=bs.length:=by omega
        subst hkl
        rw [List.take_length] at hq
        have HQ:=hid hq
        clear hq
        gi_wp2
        go_ret
        exact .inl ⟨rfl,q,HQ.out,hJq,hbq,hEq⟩
end Go.Proofs.YtlbioncagkkkoaaGreatDoor
