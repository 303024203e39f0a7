/- tree.Each: all blocks, in document order, handed to a loop's body. What is read stands where a block that is no cells changes. -/
import Derived.RangeFuncNested
import Derived.RangeFuncBound
import Derived.Shelf.RegionOpen
import Derived.OwnWalkIn
import Derived.LoopNIn
import Derived.Sort.CutIn
import Derived.Test.YtdneicipdlofiaaGreatDoorKInlines
set_option maxHeartbeats 4000000
set_option maxRecDepth 100000
open Go.Lib (hid)
namespace Go.Proofs.YtdneicipdlofiaaGreatDoor
open List renaming setIfInBounds_toArray->jo9,set_cons_zero->joj,set_cons_succ->jok
open Go renaming World->js1
open Go.RowKit Go.Shelf
set_option linter.unusedVariables false
set_option linter.unusedSimpArgs false
attribute [local go_sem] Oper.semAt_some
theorem QF {F:Fence} (hd:F.depth=none) {m m':Nat} {P:Program} {l:Nat} {f:FuncId} {tmps:Array Value} {assign body:Code} {w:js1} {R:Ending->js1->Prop} (h:RoundIn F m P l f tmps assign body w R):RoundIn F m' P l f tmps assign body w R:=⟨h.1,fun c cs _=>h.2 c cs (fun d h=>by rw [hd] at h;cases h)⟩
theorem QG {F:Fence} (hd:F.depth=none) {m:Nat} (m':Nat) {P:Program} {l:Nat} {args:Array Value} {W:js1} {R:Ending->js1->Prop} (h:YieldAt F m P l args W R):YieldAt F m' P l args W R:=by obtain ⟨fn,tmps,assign,body,hy,hR⟩:=h;exact ⟨fn,tmps,assign,body,hy,QF hd hR⟩
theorem MJ {P:Program} {ops:Array Oper} {o:Oper} {a:Act} {w:js1} {K':Act->js1->Prop} {X:Prop} (hw:Region.wanted o (yielded ops a.tmps)=false) (h:K' (a.put o.dst undef) w) : (if Region.wanted o (yielded ops a.tmps)=true then X else (∀ f,o.about P w a.eval=some f->Fence.wide.fn f)/\K' (a.put o.dst undef) w):=by rw [hw];exact ⟨fun _ _=>trivial,h⟩
mutual
def ah.each:ah->List ah
  | .mk k lv i t d ti a li ks=>.mk k lv i t d ti a li ks::ah.aS ks
def ah.aS:List ah->List ah
  | []=>[]
  | x::l=>x.each++ah.aS l
end
theorem ah.Bt (l m:List ah):ah.aS (l++m)=ah.aS l++ah.aS m:=by
  induction l with
  | nil=>rw [ah.aS];rfl
  | cons x l ih=>rw [List.cons_append,ah.aS,ah.aS,ih,List.append_assoc]
theorem ah.yG (l:List ah) (k:Nat) (x:ah) (h:l[k]?=some x):ah.aS (l.take (k+1))=ah.aS (l.take k)++x.each:=by rw [List.take_add_one,h,ah.Bt];simp [ah.aS]
theorem ah.nY (l:List ah) (k:Nat) (x:ah) (h:l[k]?=some x):ah.aS l=ah.aS (l.take k)++(x.each++ah.aS (l.drop (k+1))):=by rw [<- List.append_assoc,<- ah.yG l k x h,<- ah.Bt,List.take_append_drop]
structure BV where
  kd:Int
  lv:Int
  i:ByteArray
  t:ByteArray
  d:ByteArray
  ti:ByteArray
  at_:At
  li:List aj
  ks:List ah
  vc:Value
  vp:Value
  vl:Value
  vk:Value
def BV.blk (x:BV):ah:=.mk x.kd x.lv x.i x.t x.d x.ti x.at_ x.li x.ks
def BV.enc (x:BV):Value:=.agg #[.int .i64 x.kd,.int .i64 x.lv,.string x.i,.string x.t,.string x.d,.string x.ti,.string x.at_.id,x.vc,x.vp,x.vl,x.vk]
abbrev zl (ok:Nat->Prop) (w0:js1) (P:ah->Prop):Type:={ x:BV // rQ ok w0 x.at_ x.li x.ks x.vc x.vp x.vl x.vk/\P x.blk }
def iQ {ok:Nat->Prop} {w0:js1} {P:ah->Prop} (l:List (zl ok w0 P)):List ah:=l.map fun x=>x.1.blk
theorem jq {ok:Nat->Prop} {w0:js1} {P:ah->Prop} (l m:List (zl ok w0 P)):iQ (l++m)=iQ l++iQ m:=by unfold iQ;rw [List.map_append]
theorem Jh {ok:Nat->Prop} {w0:js1} {P:ah->Prop} (l:List (zl ok w0 P)):(iQ l).length=l.length:=by unfold iQ;rw [List.length_map]
structure Gt (ok:Nat->Prop) (w w':js1):Prop where
  os:w'.os=w.os
  tape:w'.tape=w.tape
  output:w'.output=w.output
  size:w.heap.size<=w'.heap.size
  block:∀ b,ok b->w'.heap[b]?=w.heap[b]?
theorem Gt.trans {ok:Nat->Prop} {w w1 w2:js1} (h:Gt ok w w1) (k:Gt ok w1 w2):Gt ok w w2:=⟨k.os.trans h.os,k.tape.trans h.tape,k.output.trans h.output,Nat.le_trans h.size k.size,fun b hb=>(k.block b hb).trans (h.block b hb)⟩
theorem Gt.of {ok:Nat->Prop} {B:Nat} {w w1:js1} (h:Below B w w1) (hB:∀ b,ok b->b<B):Gt ok w w1:=⟨h.os,h.tape,h.output,h.size,fun b hb=>h.block b (hB b hb)⟩
structure EO (ok:Nat->Prop) (Kp:js1->js1->Prop):Prop where
  below:∀ {W W':js1},Kp W W'->Gt ok W W'
  YT:∀ {W W':js1} {b:Nat} {v:Value},Kp W W'->aH b v 69 W->aH b v 69 W'
  Xw:∀ {W W':js1} {b:Nat} {v:Value},Kp W W'->aH b v 133 W->aH b v 133 W'
theorem dx.same {w w':js1} {b o:Nat} {k lv:Int} {i t d ti id:ByteArray} {vc vp vl vk:Value} (h:dx w b o k lv i t d ti id vc vp vl vk) (hb:w'.heap[b]?=w.heap[b]?):dx w' b o k lv i t d ti id vc vp vl vk:=by obtain ⟨h0,h1,h2,h3,h4,h5,h6,h7,h8,h9,h10⟩:=h;constructor<;>(rw [iZ hb];assumption)
def Bu (yT bw:Nat):Value:=.func (.func 108) #[] #[.pointer (some ⟨yT,0,none⟩),.pointer (some ⟨bw,0,none⟩)]
structure EB (l yT bw:Nat) (W:js1):Prop where
  YT:aH yT (.func (.yield l) #[] #[]) 69 W
  Xw:aH bw (Bu yT bw) 133 W
theorem EB.kept {l yT bw:Nat} {ok:Nat->Prop} {W W':js1} {Kp:js1->js1->Prop} (h:EB l yT bw W) (hK:EO ok Kp) (hk:Kp W W'):EB l yT bw W':=⟨hK.YT hk h.YT,hK.Xw hk h.Xw⟩
def QH {ok:Nat->Prop} {w0:js1} {P:ah->Prop} (l yT bw:Nat) (J:List (zl ok w0 P)->js1->Prop) (pre:List (zl ok w0 P)) (bs:List ah) (W:js1):Prop:=
  ∃ q:List (zl ok w0 P),iQ q=ah.aS bs/\J (pre++q) W/\Gt ok w0 W/\EB l yT bw W
def VW {ok:Nat->Prop} {w0:js1} {P:ah->Prop} (l yT bw:Nat) (J:List (zl ok w0 P)->js1->Prop) (pre:List (zl ok w0 P)) (bs:List ah) (vi:Value) (W:js1):Prop:=
  ∃ k:Nat,k<=bs.length/\vi=.int .i64 k/\QH l yT bw J pre (bs.take k) W
theorem MK (l yT bw N:Nat) (ok:Nat->Prop) (P:ah->Prop) (w0:js1) (Kp:js1->js1->Prop) (hK:EO ok Kp) (J Jx:List (zl ok w0 P)->js1->Prop) (hJd:∀ pre W,J pre W->J pre W.drew) (hY:∀ (m:Nat) (pre:List (zl ok w0 P)) (x:zl ok w0 P) (W:js1),J pre W->pre.length<N->YieldAt Fence.wide m Tryz.prog l #[x.1.enc] W fun e W'=> (e=.returned (.bool true)/\J (pre++[x]) W'/\Kp W W')\/(e=.returned (.bool false)/\Jx (pre++[x]) W')) (n:Nat) : ∀ (m:Nat) (bs:List ah) (v:Value) (pre:List (zl ok w0 P)) (W:js1),ah.aX bs<=n->(∀ b∈ah.aS bs,P b)->Rd ok w0 (om bs) [v]->Gt ok w0 W->EB l yT bw W->J pre W->pre.length+(ah.aS bs).length<=N -> CallsIn Fence.wide m Tryz.prog 108 #[v,.pointer (some ⟨yT,0,none⟩),.pointer (some ⟨bw,0,none⟩)] W fun e W'=> (e=.returned (.bool true)/\QH l yT bw J pre bs W')\/(e=.returned (.bool false)/\∃ q,iQ q <+: ah.aS bs/\Jx (pre++q) W'):=by
  induction n using Nat.strongRecOn with
  | _ n ih=>
    intro m bs v pre W hn hPb hrd hbel hEB hJ hN;obtain ⟨a,cap,hv,hs⟩:=Rd.aC hrd;obtain rfl:v=.slice a bs.length cap:=by simpa using hv
    have hcap:bs.length<=cap:=by simpa using hs.le
    have hll:=ah.pK bs;have hmx:=hs.max;have hdd:∀ k:Nat,(Fence.wide.depth.isSome=true->1<=k):=fun k h=>by cases h
    have HS:=hid hs;have IH:=hid ih;have R0:Hid (VW l yT bw J pre bs (.int .i64 0) W):=⟨0,Nat.zero_le _,rfl,[],by rw [List.take_zero,ah.aS];rfl,by rw [List.append_nil];exact hJ,hbel,hEB⟩;have HY:=hid hY;have Ox:=hid hPb;have HJD:=hid hJd;have HKP:=hid hK;clear hs hv hrd ih hJ hbel hEB hY hJd hK hPb;unfold maxLen at hmx;refine callsIn_of_wp Tryz.func108 rfl trivial ?_ rfl;simp only [Tryz.ntmps108,List.size_toArray,List.length_cons,List.length_nil,Nat.reduceAdd,Nat.reduceSub,Array.replicate_succ,Array.replicate_zero,List.push_toArray,List.append_toArray,List.nil_append,List.cons_append]
    gi_wp2
    gi_loopw [8] (fun vi wr=>VW l yT bw J pre bs vi wr) (fun i _=>bs.length-(intOf i).toNat)
    case atStart=>exact R0.out
    case round=>
      obtain ⟨k,hk,rfl,q,hq,hJq,hbq,hEq⟩:=hrel;clear R0;by_cases hlt:k<bs.length
      · obtain ⟨x,hx⟩:∃ x,bs[k]?=some x:=⟨_,List.getElem?_eq_getElem hlt⟩
        obtain ⟨kd,lv,i,t,d,ti,at_,li,ks⟩:=x;obtain ⟨g,off,vc,vp,vl,vk,rfl,hok,hbl,hc,hR⟩:=dH HS.out hx;obtain ⟨ac,nc,cc,rfl⟩:=Rd.au hR.at_.cls
        obtain ⟨ap,np,cp,rfl⟩:=Rd.au hR.at_.aJ
        obtain ⟨al,nl,cl,rfl⟩:=Rd.au hR.line;obtain ⟨ak,nk,ck,rfl⟩:=Rd.au hR.kids;have hsz:=ah.bP bs k _ hx;rw [ah.sz] at hsz;have hcut:=congrArg List.length (ah.nY bs k _ hx);rw [ah.each] at hcut;simp only [List.length_append,List.length_cons] at hcut;have hql:=congrArg List.length hq;rw [Jh] at hql;obtain ⟨c0,c1,c2,c3,c4,c5,c6,c7,c8,c9,c10⟩:=hc.same (w':=wr.drew) (hbq.block g hok);have y0:wr.drew.cell? ⟨yT,0,none⟩=some (.func (.yield l) #[] #[]):=hEq.YT.cell;obtain ⟨X,hXe,hXb⟩:∃ X:zl ok w0 P,X.1.enc=.agg #[.int .i64 kd,.int .i64 lv,.string i,.string t,.string d,.string ti,.string at_.id,.slice ac nc cc,.slice ap np cp,.slice al nl cl,.slice ak nk ck]/\X.1.blk=.mk kd lv i t d ti at_ li ks:=⟨⟨⟨kd,lv,i,t,d,ti,at_,li,ks,_,_,_,_⟩,hR,Ox.out _ (by rw [ah.nY bs k _ hx,ah.each];simp [BV.blk])⟩,rfl,rfl⟩
        obtain ⟨fn,tmps,assign,body,hy,hRd⟩:=HY.out (m-1) (pre++q) X wr.drew (HJD.out _ _ hJq) (by simp;omega);rw [hXe] at hy;have hw3:∀ W3,Kp wr.drew W3->W3.cell? ⟨bw,0,none⟩=some (Bu yT bw)/\W3.cell? ⟨g,off+k*11+10,none⟩=some (.slice ak nk ck):=by intro W3 h3;exact ⟨(HKP.out.Xw h3 hEq.Xw).cell,(hc.same (w':=W3) (((HKP.out.below h3).block g hok).trans (hbq.block g hok))).c10⟩
        unfold Bu at hw3;have HW3:=hid hw3;have jfj:Gt ok w0 wr.drew:=⟨hbq.os,hbq.tape,hbq.output,hbq.size,hbq.block⟩;have jfk:EB l yT bw wr.drew:=⟨hEq.YT.drew,hEq.Xw.drew⟩;have HPF:Hid (∀ q2:List (zl ok w0 P),iQ q2 <+: ah.aS ks->iQ (q++[X]++q2) <+: ah.aS bs):=by intro q2 h2;rw [ah.nY bs k _ hx,jq,jq,hq,ah.each];obtain ⟨r,hr⟩:=h2;refine ⟨r++ah.aS (bs.drop (k+1)),?_⟩;rw [<- hr];simp [iQ,hXb]
        have HCK:Hid (∀ W3,J (pre++q++[X]) W3->Kp wr.drew W3->CallsIn Fence.wide (m-1) Tryz.prog 108 #[.slice ak nk ck,.pointer (some ⟨yT,0,none⟩),.pointer (some ⟨bw,0,none⟩)] W3 fun e W'=>
            ∃ b,e=.returned (.bool b)/\((b=true/\QH l yT bw J pre (bs.take (k+1)) W')\/(b=false/\∃ q2,iQ q2 <+: ah.aS bs/\Jx (pre++q2) W'))):=by
          intro W3 h3 hk3;refine (IH.out (ah.aX ks) (by omega) (m-1) ks _ (pre++q++[X]) W3 (Nat.le_refl _) (fun b hb=>Ox.out b (by rw [ah.nY bs k _ hx,ah.each];simp [hb])) hR.kids (jfj.trans (HKP.out.below hk3)) (jfk.kept HKP.out hk3) h3 (by simp;omega)).mono ?_;rintro e W' (⟨rfl,q2,h5,h6,h7,h8⟩ | ⟨rfl,q2,h5,h6⟩)
          · refine ⟨true,rfl,.inl ⟨rfl,q++[X]++q2,?_,by simpa using h6,h7,h8⟩⟩
            rw [ah.yG bs k _ hx,jq,jq,hq,h5,ah.each];simp [iQ,hXb]
          · exact ⟨false,rfl,.inr ⟨rfl,_,HPF.out q2 h5,by simpa using h6⟩⟩
        have HRd:=hid hRd;have HR:=hid hR;have HX:=hid hx;have HEq:=hid hEq;have HXE:=hid hXe;have HXB:=hid hXb;have HQ:=hid hq;have HBQ:=hid hbq;clear hRd hc hR hx hEq hw3 hXe hXb hq hbq hJq jfj jfk
        gi_upto_region 4 with (fail)
        gi_region_with (first
          | ((try refine ⟨hdd _,?_⟩);refine HRd.out.mono ?_;clear HRd;rintro e W3 (⟨rfl,hJ3,hk3⟩ | ⟨rfl,hx3⟩)
             rotate_left;dsimp only
             rename_i KK hKK
             refine hKK _ _ ?_;refine wpAnyIn_take (i := 6) (oi := { dst := some 17, op := Op.unOp UnOp.not 4 (Operand.tmp 16), type := 4, pos := "tree.go:154", after := #[{ on := 5, ground := Ground.data }], guard := none }) (v := ?v6) rfl rfl (by kernel_rfl) (by kernel_rfl) (by kernel_rfl) (fun _ _ _ h => h) ⟨Or.inl ⟨by rfl, ?y6⟩, fun _ => rfl⟩ ?_;case y6=>(intro w;go_simp;try (with_reducible rfl))
             simp only [Act.put,jo9,joj,jok];refine wpAnyIn_take (i := 7) (oi := { dst := some 18, op := Op.move (Operand.tmp 17), type := 4, pos := "tree.go:154", after := #[{ on := 6, ground := Ground.data }, { on := 5, ground := Ground.chain }], guard := none }) (v := ?v7) rfl rfl (by kernel_rfl) (by kernel_rfl) (by kernel_rfl) (fun _ _ _ h => h) ⟨Or.inl ⟨by rfl, ?y7⟩, fun _ => rfl⟩ ?_;case y7=>(intro w;go_simp;try (with_reducible rfl))
             simp only [Act.put,jo9,joj,jok];refine wpAnyIn_take (i := 8) (oi := { dst := some 19, op := Op.load 133 (Operand.tmp 2), type := 133, pos := "tree.go:154", after := #[{ on := 7, ground := Ground.guard }], guard := some (7, false) }) (v := undef) rfl rfl (by kernel_rfl) (by kernel_rfl) (by kernel_rfl) (fun _ _ _ h => h) ⟨Or.inr ⟨by kernel_rfl, rfl⟩, fun _ => rfl⟩ ?_;simp only [Act.put,jo9,joj,jok];refine wpAnyIn_take (i := 9) (oi := { dst := some 20, op := Op.move (Operand.tmp 0), type := 23, pos := "tree.go:154", after := #[{ on := 7, ground := Ground.guard }], guard := some (7, false) }) (v := undef) rfl rfl (by kernel_rfl) (by kernel_rfl) (by kernel_rfl) (fun _ _ _ h => h) ⟨Or.inr ⟨by kernel_rfl, rfl⟩, fun _ => rfl⟩ ?_;simp only [Act.put,jo9,joj,jok];refine wpAnyIn_take (i := 10) (oi := { dst := some 21, op := Op.move (Operand.tmp 5), type := 3, pos := "tree.go:154", after := #[{ on := 7, ground := Ground.guard }], guard := some (7, false) }) (v := undef) rfl rfl (by kernel_rfl) (by kernel_rfl) (by kernel_rfl) (fun _ _ _ h => h) ⟨Or.inr ⟨by kernel_rfl, rfl⟩, fun _ => rfl⟩ ?_;simp only [Act.put,jo9,joj,jok];refine wpAnyIn_take (i := 11) (oi := { dst := some 22, op := Op.indexAddr 23 (Operand.tmp 20) (Operand.tmp 21), type := 0, pos := "tree.go:154", after := #[{ on := 9, ground := Ground.data }, { on := 10, ground := Ground.data }, { on := 7, ground := Ground.guard }], guard := some (7, false) }) (v := undef) rfl rfl (by kernel_rfl) (by kernel_rfl) (by kernel_rfl) (fun _ _ _ h => h) ⟨Or.inr ⟨by kernel_rfl, rfl⟩, fun _ => rfl⟩ ?_;simp only [Act.put,jo9,joj,jok];refine wpAnyIn_take (i := 12) (oi := { dst := some 23, op := Op.fieldAddr 40 (Operand.tmp 22) 8, type := 0, pos := "tree.go:154", after := #[{ on := 11, ground := Ground.data }, { on := 7, ground := Ground.guard }], guard := some (7, false) }) (v := undef) rfl rfl (by kernel_rfl) (by kernel_rfl) (by kernel_rfl) (fun _ _ _ h => h) ⟨Or.inr ⟨by kernel_rfl, rfl⟩, fun _ => rfl⟩ ?_;simp only [Act.put,jo9,joj,jok];refine wpAnyIn_take (i := 13) (oi := { dst := some 24, op := Op.load 23 (Operand.tmp 23), type := 23, pos := "tree.go:154", after := #[{ on := 12, ground := Ground.data }, { on := 7, ground := Ground.guard }], guard := some (7, false) }) (v := undef) rfl rfl (by kernel_rfl) (by kernel_rfl) (by kernel_rfl) (fun _ _ _ h => h) ⟨Or.inr ⟨by kernel_rfl, rfl⟩, fun _ => rfl⟩ ?_;simp only [Act.put,jo9,joj,jok];refine wpAnyIn_ready (rs:=[14]) (by kernel_rfl) (by simp) ?_;refine AllReadyIn.cons (o := { dst := some 25, op := Op.call { callee := Callee.value (Operand.tmp 19), args := #[Operand.tmp 24], argTypes := #[23] }, type := 4, pos := "tree.go:154", after := #[{ on := 8, ground := Ground.data }, { on := 13, ground := Ground.data }, { on := 7, ground := Ground.chain }, { on := 7, ground := Ground.guard }], guard := some (7, false) }) rfl (fun KL hKL => ?_) AllReadyIn.nil;refine MJ (by kernel_rfl) (hKL _ _ ?_);clear hKL KL;simp only [Act.put,jo9,joj,jok];refine wpAnyIn_take (i := 15) (oi := { dst := some 26, op := Op.unOp UnOp.not 4 (Operand.tmp 25), type := 4, pos := "tree.go:154", after := #[{ on := 14, ground := Ground.data }, { on := 7, ground := Ground.guard }], guard := some (7, false) }) (v := undef) rfl rfl (by kernel_rfl) (by kernel_rfl) (by kernel_rfl) (fun _ _ _ h => h) ⟨Or.inr ⟨by kernel_rfl, rfl⟩, fun _ => rfl⟩ ?_;simp only [Act.put,jo9,joj,jok];refine wpAnyIn_take (i := 16) (oi := { dst := some 27, op := Op.pick (Operand.tmp 18) (Operand.const (Value.bool true)) (Operand.tmp 26), type := 4, pos := "tree.go:154", after := #[{ on := 7, ground := Ground.data }, { on := 15, ground := Ground.data }], guard := none }) (v := ?v16) rfl rfl (by kernel_rfl) (by kernel_rfl) (by kernel_rfl) (fun _ _ _ h => h) ⟨Or.inl ⟨by rfl, ?y16⟩, fun _ => rfl⟩ ?_;case y16=>(intro w;go_simp;try (with_reducible rfl))
             simp only [Act.put,jo9,joj,jok];refine wpAnyIn_done (by kernel_rfl) ?_ _;clear hKK KK
             gi_wp2
             go_ret;exact .inr ⟨rfl,q++[X],by simpa using HPF.out [] (by simp [iQ]),by simpa using hx3⟩;obtain ⟨cw,ckk⟩:=HW3.out _ hk3)
          | (refine ⟨trivial,hdd _,?_⟩;refine (HCK.out _ hJ3 hk3).mono ?_;rintro e W4 ⟨b,rfl,h4⟩))
        all_goals
          rcases h4 with ⟨rfl,h4⟩ | ⟨rfl,h4⟩
          · gi_wp2
            go_roundw;case rel=>exact ⟨k+1,by omega,by go_num,h4⟩
            case measure=>simp [intOf];omega
          · gi_wp2
            go_ret;exact .inr ⟨rfl,h4⟩
      · have hkl:k=bs.length:=by omega
        subst hkl;rw [List.take_length] at hq;have HQ:=hid hq;clear hq
        gi_wp2
        go_ret;exact .inl ⟨rfl,q,HQ.out,hJq,hbq,hEq⟩
open Go.RowKit
theorem SN {w:js1} {r:Nat} {o:Obj} (ho:w.heap[r]?=some o) (hc:o.isCells=false) (j:Nat) (u:Value):w.cell? ⟨r,j,none⟩≠some u:=by intro h;unfold World.cell? at h;rw [ho] at h;cases o<;>simp_all [Obj.isCells]
mutual
theorem Rd.AQ {ok:Nat->Prop} {w w':js1} (hz:w.heap.size<=w'.heap.size) (hs:∀ b,ok b->b<w.heap.size->(∃ j u,w.cell? ⟨b,j,none⟩=some u)->w'.heap[b]?=w.heap[b]?):∀ (d:D) (cs:List Value),Rd ok w d cs->Rd ok w' d cs
  | .int _ _,_,h=>by unfold Rd at h ⊢;exact h
  | .bool _,_,h=>by unfold Rd at h ⊢;exact h
  | .str _,_,h=>by unfold Rd at h ⊢;exact h
  | .st fs,_,h=>by
    unfold Rd at h ⊢;obtain ⟨rows,hr,hc⟩:=h;exact ⟨rows,aL.AQ hz hs fs rows hr,hc⟩
  | .sl k l,_,h=>by
    unfold Rd at h ⊢;obtain ⟨a,cap,rows,h1,h2,h3,h4,h5,h6⟩:=h;refine ⟨a,cap,rows,h1,h2,h3,aL.AQ hz hs l rows h4,h5,?_⟩;rcases h6 with h6 | ⟨b,off,h7,h8,hb,h9⟩
    · exact .inl h6
    · exact .inr ⟨b,off,h7,h8,Nat.lt_of_lt_of_le hb hz,fun j u hu=>by rw [iZ (hs b h8 hb ⟨_,_,h9 j u hu⟩)];exact h9 j u hu⟩
theorem aL.AQ {ok:Nat->Prop} {w w':js1} (hz:w.heap.size<=w'.heap.size) (hs:∀ b,ok b->b<w.heap.size->(∃ j u,w.cell? ⟨b,j,none⟩=some u)->w'.heap[b]?=w.heap[b]?):∀ (l:List D) (rows:List (List Value)),aL ok w l rows->aL ok w' l rows
  | [],_,h=>by unfold aL at h ⊢;exact h
  | d::ds,_,h=>by
    unfold aL at h ⊢;obtain ⟨r,rs,h1,h2,h3⟩:=h;exact ⟨r,rs,h1,Rd.AQ hz hs d r h2,aL.AQ hz hs ds rs h3⟩
end
theorem Rd.slB {ok:Nat->Prop} {w:js1} {k:Nat} {l:List D} {rows:List (List Value)} {b cap:Nat} (hl:l.length<=cap) (hm:cap<=maxLen) (h:aL ok w l rows) (hk:∀ r∈rows,r.length=k) (hok:ok b) (hb:b<w.heap.size) (hc:∀ j u,rows.flatten[j]?=some u->w.cell? ⟨b,j,none⟩=some u):Rd ok w (.sl k l) [.slice (some ⟨b,0,none⟩) l.length cap]:=by unfold Rd;exact ⟨_,cap,rows,rfl,hl,hm,h,hk,.inr ⟨b,0,rfl,hok,hb,fun j u hu=>by rw [Nat.zero_add];exact hc j u hu⟩⟩
end Go.Proofs.YtdneicipdlofiaaGreatDoor

