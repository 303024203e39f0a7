/- tree.Each: all blocks, in document order, handed to a loop's body. What is read stands where a block that is no cells changes. -/
import Derived.RangeFuncNested
import Derived.RangeFuncBound
import Derived.Shelf.RegionOpen
import Derived.OwnWalkIn
import Derived.LoopNIn
import Derived.Sort.CutIn
import Derived.Test.YtkfnkeflalcphaaGreatDoorMInlines
set_option maxHeartbeats 4000000
set_option maxRecDepth 100000
open Go.Lib (hid)
namespace Go.Proofs.YtkfnkeflalcphaaGreatDoor
open Tryz
open List renaming setIfInBounds_toArray->jK3,set_cons_zero->jK4,set_cons_succ->jK5
open Go renaming World->jN9,Value->jNk
open Go.RowKit Go.Shelf
set_option linter.unusedVariables false
set_option linter.unusedSimpArgs false
attribute [local go_sem] Oper.semAt_some
theorem Yd {F:Fence} (hd:F.depth=none) {m m':Nat} {P:Program} {l:Nat} {f:FuncId} {tmps:Array jNk} {assign body:Code} {w:jN9} {R:Ending->jN9->Prop} (h:RoundIn F m P l f tmps assign body w R):RoundIn F m' P l f tmps assign body w R:=⟨h.1,fun c cs _=>h.2 c cs (fun d h=>by rw [hd] at h;cases h)⟩
theorem VK {F:Fence} (hd:F.depth=none) {m:Nat} (m':Nat) {P:Program} {l:Nat} {args:Array jNk} {W:jN9} {R:Ending->jN9->Prop} (h:YieldAt F m P l args W R):YieldAt F m' P l args W R:=by obtain ⟨fn,tmps,assign,body,hy,hR⟩:=h;exact ⟨fn,tmps,assign,body,hy,Yd hd hR⟩
theorem SH {P:Program} {ops:Array Oper} {o:Oper} {a:Act} {w:jN9} {K':Act->jN9->Prop} {X:Prop} (hw:Region.wanted o (yielded ops a.tmps)=false) (h:K' (a.put o.dst undef) w) : (if Region.wanted o (yielded ops a.tmps)=true then X else (∀ f,o.about P w a.eval=some f->Fence.wide.fn f)/\K' (a.put o.dst undef) w):=by rw [hw];exact ⟨fun _ _=>trivial,h⟩
mutual
def ah.each:ah->List ah
  | .mk k lv i t d ti a li ks=>.mk k lv i t d ti a li ks::ah.aG ks
def ah.aG:List ah->List ah
  | []=>[]
  | x::l=>x.each++ah.aG l
end
theorem ah.wW (l m:List ah):ah.aG (l++m)=ah.aG l++ah.aG m:=by
  induction l with
  | nil=>rw [ah.aG];rfl
  | cons x l ih=>rw [List.cons_append,ah.aG,ah.aG,ih,List.append_assoc]
theorem ah.rU (l:List ah) (k:Nat) (x:ah) (h:l[k]?=some x):ah.aG (l.take (k+1))=ah.aG (l.take k)++x.each:=by rw [List.take_add_one,h,ah.wW];simp [ah.aG]
theorem ah.qp (l:List ah) (k:Nat) (x:ah) (h:l[k]?=some x):ah.aG l=ah.aG (l.take k)++(x.each++ah.aG (l.drop (k+1))):=by rw [<- List.append_assoc,<- ah.rU l k x h,<- ah.wW,List.take_append_drop]
structure BV where
  kd:Int
  lv:Int
  i:ByteArray
  t:ByteArray
  d:ByteArray
  ti:ByteArray
  at_:At
  li:List aj
  ks:List ah
  vc:jNk
  vp:jNk
  vl:jNk
  vk:jNk
def BV.blk (x:BV):ah:=.mk x.kd x.lv x.i x.t x.d x.ti x.at_ x.li x.ks
def BV.enc (x:BV):jNk:=.agg #[.int .i64 x.kd,.int .i64 x.lv,.string x.i,.string x.t,.string x.d,.string x.ti,.string x.at_.id,x.vc,x.vp,x.vl,x.vk]
abbrev BW (B0:Nat) (w0:jN9) (P:ah->Prop):Type:={ x:BV // kG (·<B0) w0 x.at_ x.li x.ks x.vc x.vp x.vl x.vk/\P x.blk }
def yU {B0:Nat} {w0:jN9} {P:ah->Prop} (l:List (BW B0 w0 P)):List ah:=l.map fun x=>x.1.blk
theorem jZ {B0:Nat} {w0:jN9} {P:ah->Prop} (l m:List (BW B0 w0 P)):yU (l++m)=yU l++yU m:=by unfold yU;rw [List.map_append]
theorem BS {B0:Nat} {w0:jN9} {P:ah->Prop} (l:List (BW B0 w0 P)):(yU l).length=l.length:=by unfold yU;rw [List.length_map]
structure VJ (B0:Nat) (Kp:jN9->jN9->Prop):Prop where
  below:∀ {W W':jN9},Kp W W'->Below B0 W W'
  yld:∀ {W W':jN9} {b:Nat} {v:jNk},Kp W W'->aH b v 98 W->aH b v 98 W'
  wlk:∀ {W W':jN9} {b:Nat} {v:jNk},Kp W W'->aH b v 33 W->aH b v 33 W'
theorem dA.same {w w':jN9} {b o:Nat} {k lv:Int} {i t d ti id:ByteArray} {vc vp vl vk:jNk} (h:dA w b o k lv i t d ti id vc vp vl vk) (hb:w'.heap[b]?=w.heap[b]?):dA w' b o k lv i t d ti id vc vp vl vk:=by obtain ⟨h0,h1,h2,h3,h4,h5,h6,h7,h8,h9,h10⟩:=h;constructor<;>(rw [lI hb];assumption)
def EP (zi bw:Nat):jNk:=.func (.func 88) #[] #[.pointer (some ⟨zi,0,none⟩),.pointer (some ⟨bw,0,none⟩)]
structure EB (l zi bw:Nat) (W:jN9):Prop where
  yld:aH zi (.func (.yield l) #[] #[]) 98 W
  wlk:aH bw (EP zi bw) 33 W
theorem EB.kept {l zi bw B0:Nat} {W W':jN9} {Kp:jN9->jN9->Prop} (h:EB l zi bw W) (hK:VJ B0 Kp) (hk:Kp W W'):EB l zi bw W':=⟨hK.yld hk h.yld,hK.wlk hk h.wlk⟩
def Ye {B0:Nat} {w0:jN9} {P:ah->Prop} (l zi bw:Nat) (J:List (BW B0 w0 P)->jN9->Prop) (pre:List (BW B0 w0 P)) (bs:List ah) (W:jN9):Prop:=
  ∃ q:List (BW B0 w0 P),yU q=ah.aG bs/\J (pre++q) W/\Below B0 w0 W/\EB l zi bw W
def jn3 {B0:Nat} {w0:jN9} {P:ah->Prop} (l zi bw:Nat) (J:List (BW B0 w0 P)->jN9->Prop) (pre:List (BW B0 w0 P)) (bs:List ah) (vi:jNk) (W:jN9):Prop:=
  ∃ k:Nat,k<=bs.length/\vi=.int .i64 k/\Ye l zi bw J pre (bs.take k) W
theorem Rn (l B0 zi bw N:Nat) (P:ah->Prop) (w0:jN9) (Kp:jN9->jN9->Prop) (hK:VJ B0 Kp) (J Jx:List (BW B0 w0 P)->jN9->Prop) (hJd:∀ pre W,J pre W->J pre W.drew) (hY:∀ (m:Nat) (pre:List (BW B0 w0 P)) (x:BW B0 w0 P) (W:jN9),J pre W->pre.length<N->YieldAt Fence.wide m prog l #[x.1.enc] W fun e W'=> (e=.returned (.bool true)/\J (pre++[x]) W'/\Kp W W')\/(e=.returned (.bool false)/\Jx (pre++[x]) W')) (n:Nat) : ∀ (m:Nat) (bs:List ah) (v:jNk) (pre:List (BW B0 w0 P)) (W:jN9),ah.aU bs<=n->(∀ b∈ah.aG bs,P b)->Rd (·<B0) w0 (iC bs) [v]->Below B0 w0 W->EB l zi bw W->J pre W->pre.length+(ah.aG bs).length<=N -> CallsIn Fence.wide m prog 88 #[v,.pointer (some ⟨zi,0,none⟩),.pointer (some ⟨bw,0,none⟩)] W fun e W'=> (e=.returned (.bool true)/\Ye l zi bw J pre bs W')\/(e=.returned (.bool false)/\∃ q,yU q <+: ah.aG bs/\Jx (pre++q) W'):=by
  induction n using Nat.strongRecOn with
  | _ n ih=>
    intro m bs v pre W hn hPb hrd hbel hEB hJ hN;obtain ⟨a,cap,hv,hs⟩:=Rd.aB hrd;obtain rfl:v=.slice a bs.length cap:=by simpa using hv
    have hcap:bs.length<=cap:=by simpa using hs.le
    have hll:=ah.dI bs;have hmx:=hs.max;have hdd:∀ k:Nat,(Fence.wide.depth.isSome=true->1<=k):=fun k h=>by cases h
    have HS:=hid hs;have IH:=hid ih;have R0:Hid (jn3 l zi bw J pre bs (.int .i64 0) W):=⟨0,Nat.zero_le _,rfl,[],by rw [List.take_zero,ah.aG];rfl,by rw [List.append_nil];exact hJ,hbel,hEB⟩;have HY:=hid hY;have HPB:=hid hPb;have HJD:=hid hJd;have HKP:=hid hK;clear hs hv hrd ih hJ hbel hEB hY hJd hK hPb;unfold maxLen at hmx;refine callsIn_of_wp func88 rfl trivial ?_ rfl;simp only [ntmps88,List.size_toArray,List.length_cons,List.length_nil,Nat.reduceAdd,Nat.reduceSub,Array.replicate_succ,Array.replicate_zero,List.push_toArray,List.append_toArray,List.nil_append,List.cons_append]
    gi_wp2
    gi_loopw [8] (fun vi wr=>jn3 l zi bw J pre bs vi wr) (fun i _=>bs.length-(intOf i).toNat)
    case atStart=>exact R0.out
    case round=>
      obtain ⟨k,hk,rfl,q,hq,hJq,hbq,hEq⟩:=hrel;clear R0;by_cases hlt:k<bs.length
      ·obtain ⟨x,hx⟩:∃ x,bs[k]?=some x:=⟨_,List.getElem?_eq_getElem hlt⟩;obtain ⟨kd,lv,i,t,d,ti,at_,li,ks⟩:=x;obtain ⟨g,off,vc,vp,vl,vk,rfl,hok,hbl,hc,hR⟩:=Mr HS.out hx;obtain ⟨ac,nc,cc,rfl⟩:=Rd.au hR.at_.cls
       obtain ⟨ap,np,cp,rfl⟩:=Rd.au hR.at_.aD
       obtain ⟨al,nl,cl,rfl⟩:=Rd.au hR.line;obtain ⟨ak,nk,ck,rfl⟩:=Rd.au hR.kids;have hsz:=ah.bK bs k _ hx;rw [ah.sz] at hsz;have hcut:=congrArg List.length (ah.qp bs k _ hx);rw [ah.each] at hcut;simp only [List.length_append,List.length_cons] at hcut;have hql:=congrArg List.length hq;rw [BS] at hql;obtain ⟨c0,c1,c2,c3,c4,c5,c6,c7,c8,c9,c10⟩:=hc.same (w':=wr.drew) (hbq.block g hok);have y0:wr.drew.cell? ⟨zi,0,none⟩=some (.func (.yield l) #[] #[]):=hEq.yld.cell;obtain ⟨X,TP,hXb⟩:∃ X:BW B0 w0 P,X.1.enc=.agg #[.int .i64 kd,.int .i64 lv,.string i,.string t,.string d,.string ti,.string at_.id,.slice ac nc cc,.slice ap np cp,.slice al nl cl,.slice ak nk ck]/\X.1.blk=.mk kd lv i t d ti at_ li ks:=⟨⟨⟨kd,lv,i,t,d,ti,at_,li,ks,_,_,_,_⟩,hR,HPB.out _ (by rw [ah.qp bs k _ hx,ah.each];simp [BV.blk])⟩,rfl,rfl⟩
       obtain ⟨fn,tmps,assign,body,hy,hRd⟩:=HY.out (m-1) (pre++q) X wr.drew (HJD.out _ _ hJq) (by simp;omega);rw [TP] at hy;have hw3:∀ W3,Kp wr.drew W3->W3.cell? ⟨bw,0,none⟩=some (EP zi bw)/\W3.cell? ⟨g,off+k*11+10,none⟩=some (.slice ak nk ck):=by intro W3 h3;exact ⟨(HKP.out.wlk h3 hEq.wlk).cell,(hc.same (w':=W3) (((HKP.out.below h3).block g hok).trans (hbq.block g hok))).c10⟩
       unfold EP at hw3;have HW3:=hid hw3;have jBx:Below B0 w0 wr.drew:=⟨hbq.os,hbq.tape,hbq.output,hbq.size,hbq.block⟩;have jBz:EB l zi bw wr.drew:=⟨hEq.yld.drew,hEq.wlk.drew⟩;have HPF:Hid (∀ q2:List (BW B0 w0 P),yU q2 <+: ah.aG ks->yU (q++[X]++q2) <+: ah.aG bs):=by intro q2 h2;rw [ah.qp bs k _ hx,jZ,jZ,hq,ah.each];obtain ⟨r,hr⟩:=h2;refine ⟨r++ah.aG (bs.drop (k+1)),?_⟩;rw [<- hr];simp [yU,hXb]
       have HCK:Hid (∀ W3,J (pre++q++[X]) W3->Kp wr.drew W3->CallsIn Fence.wide (m-1) prog 88 #[.slice ak nk ck,.pointer (some ⟨zi,0,none⟩),.pointer (some ⟨bw,0,none⟩)] W3 fun e W'=>
           ∃ b,e=.returned (.bool b)/\((b=true/\Ye l zi bw J pre (bs.take (k+1)) W')\/(b=false/\∃ q2,yU q2 <+: ah.aG bs/\Jx (pre++q2) W'))):=by
         intro W3 h3 hk3;refine (IH.out (ah.aU ks) (by omega) (m-1) ks _ (pre++q++[X]) W3 (Nat.le_refl _) (fun b hb=>HPB.out b (by rw [ah.qp bs k _ hx,ah.each];simp [hb])) hR.kids (jBx.trans (HKP.out.below hk3)) (jBz.kept HKP.out hk3) h3 (by simp;omega)).mono ?_;rintro e W' (⟨rfl,q2,h5,h6,h7,h8⟩ | ⟨rfl,q2,h5,h6⟩)
         ·refine ⟨true,rfl,.inl ⟨rfl,q++[X]++q2,?_,by simpa using h6,h7,h8⟩⟩;rw [ah.rU bs k _ hx,jZ,jZ,hq,h5,ah.each];simp [yU,hXb]
         ·exact ⟨false,rfl,.inr ⟨rfl,_,HPF.out q2 h5,by simpa using h6⟩⟩
       have HRd:=hid hRd;have HR:=hid hR;have HX:=hid hx;have HEq:=hid hEq;have HXE:=hid TP;have HXB:=hid hXb;have HQ:=hid hq;have HBQ:=hid hbq;clear hRd hc hR hx hEq hw3 TP hXb hq hbq hJq jBx jBz
       gi_upto_region 4 with (fail)
       gi_region_with (first
         | ((try refine ⟨hdd _,?_⟩);refine HRd.out.mono ?_;clear HRd;rintro e W3 (⟨rfl,hJ3,hk3⟩ | ⟨rfl,hx3⟩)
            rotate_left;dsimp only
            rename_i KK hKK
            refine hKK _ _ ?_;refine wpAnyIn_take (i := 6) (oi := { dst := some 17, op := Op.unOp UnOp.not 4 (Operand.tmp 16), type := 4, pos := "tree.go:154", after := #[{ on := 5, ground := Ground.data }], guard := none }) (v := ?v6) rfl rfl (by kernel_rfl) (by kernel_rfl) (by kernel_rfl) (fun _ _ _ h => h) ⟨Or.inl ⟨by rfl, ?y6⟩, fun _ => rfl⟩ ?_;case y6=>(intro w;go_simp;try (with_reducible rfl))
            simp only [Act.put,jK3,jK4,jK5];refine wpAnyIn_take (i := 7) (oi := { dst := some 18, op := Op.move (Operand.tmp 17), type := 4, pos := "tree.go:154", after := #[{ on := 6, ground := Ground.data }, { on := 5, ground := Ground.chain }], guard := none }) (v := ?v7) rfl rfl (by kernel_rfl) (by kernel_rfl) (by kernel_rfl) (fun _ _ _ h => h) ⟨Or.inl ⟨by rfl, ?y7⟩, fun _ => rfl⟩ ?_;case y7=>(intro w;go_simp;try (with_reducible rfl))
            simp only [Act.put,jK3,jK4,jK5];refine wpAnyIn_take (i := 8) (oi := { dst := some 19, op := Op.load 33 (Operand.tmp 2), type := 33, pos := "tree.go:154", after := #[{ on := 7, ground := Ground.guard }], guard := some (7, false) }) (v := undef) rfl rfl (by kernel_rfl) (by kernel_rfl) (by kernel_rfl) (fun _ _ _ h => h) ⟨Or.inr ⟨by kernel_rfl, rfl⟩, fun _ => rfl⟩ ?_;simp only [Act.put,jK3,jK4,jK5];refine wpAnyIn_take (i := 9) (oi := { dst := some 20, op := Op.move (Operand.tmp 0), type := 22, pos := "tree.go:154", after := #[{ on := 7, ground := Ground.guard }], guard := some (7, false) }) (v := undef) rfl rfl (by kernel_rfl) (by kernel_rfl) (by kernel_rfl) (fun _ _ _ h => h) ⟨Or.inr ⟨by kernel_rfl, rfl⟩, fun _ => rfl⟩ ?_;simp only [Act.put,jK3,jK4,jK5];refine wpAnyIn_take (i := 10) (oi := { dst := some 21, op := Op.move (Operand.tmp 5), type := 3, pos := "tree.go:154", after := #[{ on := 7, ground := Ground.guard }], guard := some (7, false) }) (v := undef) rfl rfl (by kernel_rfl) (by kernel_rfl) (by kernel_rfl) (fun _ _ _ h => h) ⟨Or.inr ⟨by kernel_rfl, rfl⟩, fun _ => rfl⟩ ?_;simp only [Act.put,jK3,jK4,jK5];refine wpAnyIn_take (i := 11) (oi := { dst := some 22, op := Op.indexAddr 22 (Operand.tmp 20) (Operand.tmp 21), type := 0, pos := "tree.go:154", after := #[{ on := 9, ground := Ground.data }, { on := 10, ground := Ground.data }, { on := 7, ground := Ground.guard }], guard := some (7, false) }) (v := undef) rfl rfl (by kernel_rfl) (by kernel_rfl) (by kernel_rfl) (fun _ _ _ h => h) ⟨Or.inr ⟨by kernel_rfl, rfl⟩, fun _ => rfl⟩ ?_;simp only [Act.put,jK3,jK4,jK5];refine wpAnyIn_take (i := 12) (oi := { dst := some 23, op := Op.fieldAddr 48 (Operand.tmp 22) 8, type := 0, pos := "tree.go:154", after := #[{ on := 11, ground := Ground.data }, { on := 7, ground := Ground.guard }], guard := some (7, false) }) (v := undef) rfl rfl (by kernel_rfl) (by kernel_rfl) (by kernel_rfl) (fun _ _ _ h => h) ⟨Or.inr ⟨by kernel_rfl, rfl⟩, fun _ => rfl⟩ ?_;simp only [Act.put,jK3,jK4,jK5];refine wpAnyIn_take (i := 13) (oi := { dst := some 24, op := Op.load 22 (Operand.tmp 23), type := 22, pos := "tree.go:154", after := #[{ on := 12, ground := Ground.data }, { on := 7, ground := Ground.guard }], guard := some (7, false) }) (v := undef) rfl rfl (by kernel_rfl) (by kernel_rfl) (by kernel_rfl) (fun _ _ _ h => h) ⟨Or.inr ⟨by kernel_rfl, rfl⟩, fun _ => rfl⟩ ?_;simp only [Act.put,jK3,jK4,jK5];refine wpAnyIn_ready (rs:=[14]) (by kernel_rfl) (by simp) ?_;refine AllReadyIn.cons (o := { dst := some 25, op := Op.call { callee := Callee.value (Operand.tmp 19), args := #[Operand.tmp 24], argTypes := #[22] }, type := 4, pos := "tree.go:154", after := #[{ on := 8, ground := Ground.data }, { on := 13, ground := Ground.data }, { on := 7, ground := Ground.chain }, { on := 7, ground := Ground.guard }], guard := some (7, false) }) rfl (fun KL hKL => ?_) AllReadyIn.nil;refine SH (by kernel_rfl) (hKL _ _ ?_);clear hKL KL;simp only [Act.put,jK3,jK4,jK5];refine wpAnyIn_take (i := 15) (oi := { dst := some 26, op := Op.unOp UnOp.not 4 (Operand.tmp 25), type := 4, pos := "tree.go:154", after := #[{ on := 14, ground := Ground.data }, { on := 7, ground := Ground.guard }], guard := some (7, false) }) (v := undef) rfl rfl (by kernel_rfl) (by kernel_rfl) (by kernel_rfl) (fun _ _ _ h => h) ⟨Or.inr ⟨by kernel_rfl, rfl⟩, fun _ => rfl⟩ ?_;simp only [Act.put,jK3,jK4,jK5];refine wpAnyIn_take (i := 16) (oi := { dst := some 27, op := Op.pick (Operand.tmp 18) (Operand.const (Value.bool true)) (Operand.tmp 26), type := 4, pos := "tree.go:154", after := #[{ on := 7, ground := Ground.data }, { on := 15, ground := Ground.data }], guard := none }) (v := ?v16) rfl rfl (by kernel_rfl) (by kernel_rfl) (by kernel_rfl) (fun _ _ _ h => h) ⟨Or.inl ⟨by rfl, ?y16⟩, fun _ => rfl⟩ ?_;case y16=>(intro w;go_simp;try (with_reducible rfl))
            simp only [Act.put,jK3,jK4,jK5];refine wpAnyIn_done (by kernel_rfl) ?_ _;clear hKK KK
            gi_wp2
            go_ret;exact .inr ⟨rfl,q++[X],by simpa using HPF.out [] (by simp [yU]),by simpa using hx3⟩;obtain ⟨cw,ckk⟩:=HW3.out _ hk3)
         | (refine ⟨trivial,hdd _,?_⟩;refine (HCK.out _ hJ3 hk3).mono ?_;rintro e W4 ⟨b,rfl,h4⟩))
       all_goals
         rcases h4 with ⟨rfl,h4⟩ | ⟨rfl,h4⟩
         ·gi_wp2
          go_roundw;case rel=>exact ⟨k+1,by omega,by go_num,h4⟩
          case measure=>simp [intOf];omega
         ·gi_wp2
          go_ret;exact .inr ⟨rfl,h4⟩
      ·have hkl:k=bs.length:=by omega
       subst hkl;rw [List.take_length] at hq;have HQ:=hid hq;clear hq
       gi_wp2
       go_ret;exact .inl ⟨rfl,q,HQ.out,hJq,hbq,hEq⟩
open Go.RowKit
theorem Qq {w:jN9} {r:Nat} {o:Obj} (ho:w.heap[r]?=some o) (hc:o.isCells=false) (j:Nat) (u:jNk):w.cell? ⟨r,j,none⟩≠some u:=by intro h;unfold World.cell? at h;rw [ho] at h;cases o<;>simp_all [Obj.isCells]
mutual
theorem Rd.Cw {ok:Nat->Prop} {w w':jN9} (hz:w.heap.size<=w'.heap.size) (hs:∀ b,ok b->b<w.heap.size->(∃ j u,w.cell? ⟨b,j,none⟩=some u)->w'.heap[b]?=w.heap[b]?):∀ (d:D) (cs:List jNk),Rd ok w d cs->Rd ok w' d cs
  | .int _ _,_,h=>by unfold Rd at h ⊢;exact h
  | .bool _,_,h=>by unfold Rd at h ⊢;exact h
  | .str _,_,h=>by unfold Rd at h ⊢;exact h
  | .st fs,_,h=>by
    unfold Rd at h ⊢;obtain ⟨rows,hr,hc⟩:=h;exact ⟨rows,aO.Cw hz hs fs rows hr,hc⟩
  | .sl k l,_,h=>by
    unfold Rd at h ⊢;obtain ⟨a,cap,rows,h1,h2,h3,h4,h5,h6⟩:=h;refine ⟨a,cap,rows,h1,h2,h3,aO.Cw hz hs l rows h4,h5,?_⟩;rcases h6 with h6 | ⟨b,off,h7,h8,hb,h9⟩
    ·exact .inl h6
    ·exact .inr ⟨b,off,h7,h8,Nat.lt_of_lt_of_le hb hz,fun j u hu=>by rw [lI (hs b h8 hb ⟨_,_,h9 j u hu⟩)];exact h9 j u hu⟩
theorem aO.Cw {ok:Nat->Prop} {w w':jN9} (hz:w.heap.size<=w'.heap.size) (hs:∀ b,ok b->b<w.heap.size->(∃ j u,w.cell? ⟨b,j,none⟩=some u)->w'.heap[b]?=w.heap[b]?):∀ (l:List D) (rows:List (List jNk)),aO ok w l rows->aO ok w' l rows
  | [],_,h=>by unfold aO at h ⊢;exact h
  | d::ds,_,h=>by
    unfold aO at h ⊢;obtain ⟨r,rs,h1,h2,h3⟩:=h;exact ⟨r,rs,h1,Rd.Cw hz hs d r h2,aO.Cw hz hs ds rs h3⟩
end
theorem Rd.Fj {ok:Nat->Prop} {w w':jN9} {row:Option Nat} {d:D} {cs:List jNk} (h:Rd ok w d cs) (hg:w.grownBy w' row) (hr:∀ r,row=some r->∃ o:Obj,w.heap[r]?=some o/\o.isCells=false):Rd ok w' d cs:=
  Rd.Cw hg.size (fun b _ hb ⟨j,u,hc⟩=>hg.block b hb (fun e=>by obtain ⟨o,k1,k2⟩:=hr b e.symm;exact Qq k1 k2 j u hc)) _ _ h
theorem aC.Fj {T:TypeId} {k U:Nat} {ok:Nat->Prop} {w0 w w':jN9} {ds:List D} {rows:List (List jNk)} {v:jNk} {row:Option Nat} (h:aC T k ok U w0 ds rows v w) (hg:w.grownBy w' row) (hr:∀ r,row=some r->w0.heap.size<=r/\∃ o:Obj,w.heap[r]?=some o/\o.isCells=false):aC T k ok U w0 ds rows v w':=by
  refine ⟨?_,aO.Cw hg.size (fun b _ hb ⟨j,u,hc⟩=>hg.block b hb (fun e=>by obtain ⟨-,o,k1,k2⟩:=hr b e.symm;exact Qq k1 k2 j u hc)) _ _ h.red,h.len,h.aY.grown hg h.aY.size (fun j hj=>(hr j hj).1),h.oU,h.qL,Nat.le_trans h.CZ hg.size⟩;obtain ⟨h1,h2⟩:=h.own;refine ⟨h1,?_⟩;rcases h2 with h2 | ⟨g,cap,cur,rfl,r2,r3,r4⟩
  ·exact .inl h2
  ·exact .inr ⟨g,cap,cur,rfl,r2,(hg.block g (Array.getElem?_eq_some_iff.1 r3).1 (fun e=>by
     obtain ⟨-,o,k1,k2⟩:=hr g e.symm;rw [r3] at k1;cases k1;cases k2)).trans r3,r4⟩
theorem jn4{P:Prop}(h:P:=by
 unfold Rd;exact ⟨_,cap,rows,rfl,hl,hm,h,hk,.inr ⟨b,0,rfl,hok,hb,fun j u hu=>by rw [Nat.zero_add];exact hc j u hu⟩⟩):P:=h
theorem Rd.slB {ok:Nat->Prop} {w:jN9} {k:Nat} {l:List D} {rows:List (List jNk)} {b cap:Nat} (hl:l.length<=cap) (hm:cap<=maxLen) (h:aO ok w l rows) (hk:∀ r∈rows,r.length=k) (hok:ok b) (hb:b<w.heap.size) (hc:∀ j u,rows.flatten[j]?=some u->w.cell? ⟨b,j,none⟩=some u):Rd ok w (.sl k l) [.slice (some ⟨b,0,none⟩) l.length cap]:=by exact jn4
end Go.Proofs.YtkfnkeflalcphaaGreatDoor

