/- tree.Each: all blocks, in document order, handed to a loop's body. What is read stands where a block that is no cells changes. -/
import Derived.RangeFuncNested
import Derived.RangeFuncBound
import Derived.Shelf.RegionOpen
import Derived.OwnWalkIn
import Derived.LoopNIn
import Derived.Sort.CutIn
import Derived.Test.YtkfnkeflalcphaaGreatDoorKInlines
set_option maxHeartbeats 4000000
set_option maxRecDepth 100000
open Go.Lib (hid)
namespace Go.Proofs.YtkfnkeflalcphaaGreatDoor
open List renaming setIfInBounds_toArray->jj4,set_cons_zero->jj5,set_cons_succ->jj6
open Go renaming World->jmj,Value->jmq
open Go.RowKit Go.Shelf
set_option linter.unusedVariables false
set_option linter.unusedSimpArgs false
attribute [local go_sem] Oper.semAt_some
theorem Ou {F:Fence} (hd:F.depth=none) {m m':Nat} {P:Program} {l:Nat} {f:FuncId} {tmps:Array jmq} {assign body:Code} {w:jmj} {R:Ending->jmj->Prop} (h:RoundIn F m P l f tmps assign body w R):RoundIn F m' P l f tmps assign body w R:=⟨h.1,fun c cs _=>h.2 c cs (fun d h=>by rw [hd] at h;cases h)⟩
theorem Nq {F:Fence} (hd:F.depth=none) {m:Nat} (m':Nat) {P:Program} {l:Nat} {args:Array jmq} {W:jmj} {R:Ending->jmj->Prop} (h:YieldAt F m P l args W R):YieldAt F m' P l args W R:=by obtain ⟨fn,tmps,assign,body,hy,hR⟩:=h;exact ⟨fn,tmps,assign,body,hy,Ou hd hR⟩
theorem KO {P:Program} {ops:Array Oper} {o:Oper} {a:Act} {w:jmj} {K':Act->jmj->Prop} {X:Prop} (hw:Region.wanted o (yielded ops a.tmps)=false) (h:K' (a.put o.dst undef) w) : (if Region.wanted o (yielded ops a.tmps)=true then X else (∀ f,o.about P w a.eval=some f->Fence.wide.fn f)/\K' (a.put o.dst undef) w):=by rw [hw];exact ⟨fun _ _=>trivial,h⟩
mutual
def ah.each:ah->List ah
  | .mk k lv i t d ti a li ks=>.mk k lv i t d ti a li ks::ah.aW ks
def ah.aW:List ah->List ah
  | []=>[]
  | x::l=>x.each++ah.aW l
end
theorem ah.zT (l m:List ah):ah.aW (l++m)=ah.aW l++ah.aW m:=by
  induction l with
  | nil=>rw [ah.aW];rfl
  | cons x l ih=>rw [List.cons_append,ah.aW,ah.aW,ih,List.append_assoc]
theorem ah.wX (l:List ah) (k:Nat) (x:ah) (h:l[k]?=some x):ah.aW (l.take (k+1))=ah.aW (l.take k)++x.each:=by rw [List.take_add_one,h,ah.zT];simp [ah.aW]
theorem ah.nT (l:List ah) (k:Nat) (x:ah) (h:l[k]?=some x):ah.aW l=ah.aW (l.take k)++(x.each++ah.aW (l.drop (k+1))):=by rw [<- List.append_assoc,<- ah.wX l k x h,<- ah.zT,List.take_append_drop]
structure BV where
  kd:Int
  lv:Int
  i:ByteArray
  t:ByteArray
  d:ByteArray
  ti:ByteArray
  at_:At
  li:List aj
  ks:List ah
  vc:jmq
  vp:jmq
  vl:jmq
  vk:jmq
def BV.blk (x:BV):ah:=.mk x.kd x.lv x.i x.t x.d x.ti x.at_ x.li x.ks
def BV.enc (x:BV):jmq:=.agg #[.int .i64 x.kd,.int .i64 x.lv,.string x.i,.string x.t,.string x.d,.string x.ti,.string x.at_.id,x.vc,x.vp,x.vl,x.vk]
abbrev BW (B0:Nat) (w0:jmj) (P:ah->Prop):Type:={ x:BV // ku (·<B0) w0 x.at_ x.li x.ks x.vc x.vp x.vl x.vk/\P x.blk }
def tV {B0:Nat} {w0:jmj} {P:ah->Prop} (l:List (BW B0 w0 P)):List ah:=l.map fun x=>x.1.blk
theorem jk {B0:Nat} {w0:jmj} {P:ah->Prop} (l m:List (BW B0 w0 P)):tV (l++m)=tV l++tV m:=by unfold tV;rw [List.map_append]
theorem vM {B0:Nat} {w0:jmj} {P:ah->Prop} (l:List (BW B0 w0 P)):(tV l).length=l.length:=by unfold tV;rw [List.length_map]
structure MQ (B0:Nat) (Kp:jmj->jmj->Prop):Prop where
  below:∀ {W W':jmj},Kp W W'->Below B0 W W'
  Xx:∀ {W W':jmj} {b:Nat} {v:jmq},Kp W W'->aH b v 98 W->aH b v 98 W'
  VF:∀ {W W':jmj} {b:Nat} {v:jmq},Kp W W'->aH b v 33 W->aH b v 33 W'
theorem cO.same {w w':jmj} {b o:Nat} {k lv:Int} {i t d ti id:ByteArray} {vc vp vl vk:jmq} (h:cO w b o k lv i t d ti id vc vp vl vk) (hb:w'.heap[b]?=w.heap[b]?):cO w' b o k lv i t d ti id vc vp vl vk:=by obtain ⟨h0,h1,h2,h3,h4,h5,h6,h7,h8,h9,h10⟩:=h;constructor<;>(rw [gY hb];assumption)
def zG (ug bw:Nat):jmq:=.func (.func 88) #[] #[.pointer (some ⟨ug,0,none⟩),.pointer (some ⟨bw,0,none⟩)]
structure EB (l ug bw:Nat) (W:jmj):Prop where
  Xx:aH ug (.func (.yield l) #[] #[]) 98 W
  VF:aH bw (zG ug bw) 33 W
theorem EB.kept {l ug bw B0:Nat} {W W':jmj} {Kp:jmj->jmj->Prop} (h:EB l ug bw W) (hK:MQ B0 Kp) (hk:Kp W W'):EB l ug bw W':=⟨hK.Xx hk h.Xx,hK.VF hk h.VF⟩
def Ov {B0:Nat} {w0:jmj} {P:ah->Prop} (l ug bw:Nat) (J:List (BW B0 w0 P)->jmj->Prop) (pre:List (BW B0 w0 P)) (bs:List ah) (W:jmj):Prop:=
  ∃ q:List (BW B0 w0 P),tV q=ah.aW bs/\J (pre++q) W/\Below B0 w0 W/\EB l ug bw W
def Uc {B0:Nat} {w0:jmj} {P:ah->Prop} (l ug bw:Nat) (J:List (BW B0 w0 P)->jmj->Prop) (pre:List (BW B0 w0 P)) (bs:List ah) (vi:jmq) (W:jmj):Prop:=
  ∃ k:Nat,k<=bs.length/\vi=.int .i64 k/\Ov l ug bw J pre (bs.take k) W
theorem Kg (l B0 ug bw N:Nat) (P:ah->Prop) (w0:jmj) (Kp:jmj->jmj->Prop) (hK:MQ B0 Kp) (J Jx:List (BW B0 w0 P)->jmj->Prop) (hJd:∀ pre W,J pre W->J pre W.drew) (hY:∀ (m:Nat) (pre:List (BW B0 w0 P)) (x:BW B0 w0 P) (W:jmj),J pre W->pre.length<N->YieldAt Fence.wide m Tryz.prog l #[x.1.enc] W fun e W'=> (e=.returned (.bool true)/\J (pre++[x]) W'/\Kp W W')\/(e=.returned (.bool false)/\Jx (pre++[x]) W')) (n:Nat) : ∀ (m:Nat) (bs:List ah) (v:jmq) (pre:List (BW B0 w0 P)) (W:jmj),ah.aV bs<=n->(∀ b∈ah.aW bs,P b)->Rd (·<B0) w0 (iO bs) [v]->Below B0 w0 W->EB l ug bw W->J pre W->pre.length+(ah.aW bs).length<=N -> CallsIn Fence.wide m Tryz.prog 88 #[v,.pointer (some ⟨ug,0,none⟩),.pointer (some ⟨bw,0,none⟩)] W fun e W'=> (e=.returned (.bool true)/\Ov l ug bw J pre bs W')\/(e=.returned (.bool false)/\∃ q,tV q <+: ah.aW bs/\Jx (pre++q) W'):=by
  induction n using Nat.strongRecOn with
  | _ n ih=>
    intro m bs v pre W hn hPb hrd hbel VI hJ hN;obtain ⟨a,cap,hv,hs⟩:=Rd.aB hrd;obtain rfl:v=.slice a bs.length cap:=by simpa using hv
    have hcap:bs.length<=cap:=by simpa using hs.le
    have hll:=ah.dw bs;have hmx:=hs.max;have hdd:∀ k:Nat,(Fence.wide.depth.isSome=true->1<=k):=fun k h=>by cases h
    have HS:=hid hs;have IH:=hid ih;have R0:Hid (Uc l ug bw J pre bs (.int .i64 0) W):=⟨0,Nat.zero_le _,rfl,[],by rw [List.take_zero,ah.aW];rfl,by rw [List.append_nil];exact hJ,hbel,VI⟩;have HY:=hid hY;have Tk:=hid hPb;have HJD:=hid hJd;have Xz:=hid hK;clear hs hv hrd ih hJ hbel VI hY hJd hK hPb;unfold maxLen at hmx;refine callsIn_of_wp Tryz.func88 rfl trivial ?_ rfl;simp only [Tryz.ntmps88,List.size_toArray,List.length_cons,List.length_nil,Nat.reduceAdd,Nat.reduceSub,Array.replicate_succ,Array.replicate_zero,List.push_toArray,List.append_toArray,List.nil_append,List.cons_append]
    gi_wp2
    gi_loopw [8] (fun vi wr=>Uc l ug bw J pre bs vi wr) (fun i _=>bs.length-(intOf i).toNat)
    case atStart=>exact R0.out
    case round=>
      obtain ⟨k,hk,rfl,q,hq,hJq,hbq,hEq⟩:=hrel;clear R0;by_cases hlt:k<bs.length
      · obtain ⟨x,hx⟩:∃ x,bs[k]?=some x:=⟨_,List.getElem?_eq_getElem hlt⟩
        obtain ⟨kd,lv,i,t,d,ti,at_,li,ks⟩:=x;obtain ⟨g,off,vc,vp,vl,vk,rfl,hok,hbl,hc,hR⟩:=FR HS.out hx;obtain ⟨ac,nc,cc,rfl⟩:=Rd.ay hR.at_.cls
        obtain ⟨ap,np,cp,rfl⟩:=Rd.ay hR.at_.aJ
        obtain ⟨al,nl,cl,rfl⟩:=Rd.ay hR.line;obtain ⟨ak,nk,ck,rfl⟩:=Rd.ay hR.kids;have hsz:=ah.bq bs k _ hx;rw [ah.sz] at hsz;have hcut:=congrArg List.length (ah.nT bs k _ hx);rw [ah.each] at hcut;simp only [List.length_append,List.length_cons] at hcut;have Yx:=congrArg List.length hq;rw [vM] at Yx;obtain ⟨c0,c1,c2,c3,c4,c5,c6,c7,c8,c9,c10⟩:=hc.same (w':=wr.drew) (hbq.block g hok);have y0:wr.drew.cell? ⟨ug,0,none⟩=some (.func (.yield l) #[] #[]):=hEq.Xx.cell;obtain ⟨X,Lp,hXb⟩:∃ X:BW B0 w0 P,X.1.enc=.agg #[.int .i64 kd,.int .i64 lv,.string i,.string t,.string d,.string ti,.string at_.id,.slice ac nc cc,.slice ap np cp,.slice al nl cl,.slice ak nk ck]/\X.1.blk=.mk kd lv i t d ti at_ li ks:=⟨⟨⟨kd,lv,i,t,d,ti,at_,li,ks,_,_,_,_⟩,hR,Tk.out _ (by rw [ah.nT bs k _ hx,ah.each];simp [BV.blk])⟩,rfl,rfl⟩
        obtain ⟨fn,tmps,assign,body,hy,hRd⟩:=HY.out (m-1) (pre++q) X wr.drew (HJD.out _ _ hJq) (by simp;omega);rw [Lp] at hy;have hw3:∀ W3,Kp wr.drew W3->W3.cell? ⟨bw,0,none⟩=some (zG ug bw)/\W3.cell? ⟨g,off+k*11+10,none⟩=some (.slice ak nk ck):=by intro W3 h3;exact ⟨(Xz.out.VF h3 hEq.VF).cell,(hc.same (w':=W3) (((Xz.out.below h3).block g hok).trans (hbq.block g hok))).c10⟩
        unfold zG at hw3;have HW3:=hid hw3;have ja5:Below B0 w0 wr.drew:=⟨hbq.os,hbq.tape,hbq.output,hbq.size,hbq.block⟩;have ja6:EB l ug bw wr.drew:=⟨hEq.Xx.drew,hEq.VF.drew⟩;have HPF:Hid (∀ q2:List (BW B0 w0 P),tV q2 <+: ah.aW ks->tV (q++[X]++q2) <+: ah.aW bs):=by intro q2 h2;rw [ah.nT bs k _ hx,jk,jk,hq,ah.each];obtain ⟨r,hr⟩:=h2;refine ⟨r++ah.aW (bs.drop (k+1)),?_⟩;rw [<- hr];simp [tV,hXb]
        have HCK:Hid (∀ W3,J (pre++q++[X]) W3->Kp wr.drew W3->CallsIn Fence.wide (m-1) Tryz.prog 88 #[.slice ak nk ck,.pointer (some ⟨ug,0,none⟩),.pointer (some ⟨bw,0,none⟩)] W3 fun e W'=>
            ∃ b,e=.returned (.bool b)/\((b=true/\Ov l ug bw J pre (bs.take (k+1)) W')\/(b=false/\∃ q2,tV q2 <+: ah.aW bs/\Jx (pre++q2) W'))):=by
          intro W3 h3 hk3;refine (IH.out (ah.aV ks) (by omega) (m-1) ks _ (pre++q++[X]) W3 (Nat.le_refl _) (fun b hb=>Tk.out b (by rw [ah.nT bs k _ hx,ah.each];simp [hb])) hR.kids (ja5.trans (Xz.out.below hk3)) (ja6.kept Xz.out hk3) h3 (by simp;omega)).mono ?_;rintro e W' (⟨rfl,q2,h5,h6,h7,h8⟩ | ⟨rfl,q2,h5,h6⟩)
          · refine ⟨true,rfl,.inl ⟨rfl,q++[X]++q2,?_,by simpa using h6,h7,h8⟩⟩
            rw [ah.wX bs k _ hx,jk,jk,hq,h5,ah.each];simp [tV,hXb]
          · exact ⟨false,rfl,.inr ⟨rfl,_,HPF.out q2 h5,by simpa using h6⟩⟩
        have HRd:=hid hRd;have HR:=hid hR;have HX:=hid hx;have HEq:=hid hEq;have HXE:=hid Lp;have HXB:=hid hXb;have HQ:=hid hq;have HBQ:=hid hbq;clear hRd hc hR hx hEq hw3 Lp hXb hq hbq hJq ja5 ja6
        gi_upto_region 4 with (fail)
        gi_region_with (first
          | ((try refine ⟨hdd _,?_⟩);refine HRd.out.mono ?_;clear HRd;rintro e W3 (⟨rfl,hJ3,hk3⟩ | ⟨rfl,hx3⟩)
             rotate_left;dsimp only
             rename_i KK hKK
             refine hKK _ _ ?_
             (try simp only [Act.put,jj4,jj5,jj6])
             refine wpAnyIn_take (i := 6) (oi := { dst := some 17, op := Op.unOp UnOp.not 4 (Operand.tmp 16), type := 4, pos := "tree.go:154", after := #[{ on := 5, ground := Ground.data }], guard := none }) (v := ?v6) rfl rfl (by kernel_rfl) (by kernel_rfl) (by kernel_rfl) (fun _ _ _ h => h) ⟨Or.inl ⟨by rfl, ?y6⟩, fun _ => rfl⟩ ?_;case y6=>(intro w;go_simp;try (with_reducible rfl))
             simp only [Act.put,jj4,jj5,jj6];refine wpAnyIn_take (i := 7) (oi := { dst := some 18, op := Op.move (Operand.tmp 17), type := 4, pos := "tree.go:154", after := #[{ on := 6, ground := Ground.data }, { on := 5, ground := Ground.chain }], guard := none }) (v := ?v7) rfl rfl (by kernel_rfl) (by kernel_rfl) (by kernel_rfl) (fun _ _ _ h => h) ⟨Or.inl ⟨by rfl, ?y7⟩, fun _ => rfl⟩ ?_;case y7=>(intro w;go_simp;try (with_reducible rfl))
             simp only [Act.put,jj4,jj5,jj6];refine wpAnyIn_take (i := 8) (oi := { dst := some 19, op := Op.load 33 (Operand.tmp 2), type := 33, pos := "tree.go:154", after := #[{ on := 7, ground := Ground.guard }], guard := some (7, false) }) (v := undef) rfl rfl (by kernel_rfl) (by kernel_rfl) (by kernel_rfl) (fun _ _ _ h => h) ⟨Or.inr ⟨by kernel_rfl, rfl⟩, fun _ => rfl⟩ ?_;simp only [Act.put,jj4,jj5,jj6];refine wpAnyIn_take (i := 9) (oi := { dst := some 20, op := Op.move (Operand.tmp 0), type := 22, pos := "tree.go:154", after := #[{ on := 7, ground := Ground.guard }], guard := some (7, false) }) (v := undef) rfl rfl (by kernel_rfl) (by kernel_rfl) (by kernel_rfl) (fun _ _ _ h => h) ⟨Or.inr ⟨by kernel_rfl, rfl⟩, fun _ => rfl⟩ ?_;simp only [Act.put,jj4,jj5,jj6];refine wpAnyIn_take (i := 10) (oi := { dst := some 21, op := Op.move (Operand.tmp 5), type := 3, pos := "tree.go:154", after := #[{ on := 7, ground := Ground.guard }], guard := some (7, false) }) (v := undef) rfl rfl (by kernel_rfl) (by kernel_rfl) (by kernel_rfl) (fun _ _ _ h => h) ⟨Or.inr ⟨by kernel_rfl, rfl⟩, fun _ => rfl⟩ ?_;simp only [Act.put,jj4,jj5,jj6];refine wpAnyIn_take (i := 11) (oi := { dst := some 22, op := Op.indexAddr 22 (Operand.tmp 20) (Operand.tmp 21), type := 0, pos := "tree.go:154", after := #[{ on := 9, ground := Ground.data }, { on := 10, ground := Ground.data }, { on := 7, ground := Ground.guard }], guard := some (7, false) }) (v := undef) rfl rfl (by kernel_rfl) (by kernel_rfl) (by kernel_rfl) (fun _ _ _ h => h) ⟨Or.inr ⟨by kernel_rfl, rfl⟩, fun _ => rfl⟩ ?_;simp only [Act.put,jj4,jj5,jj6];refine wpAnyIn_take (i := 12) (oi := { dst := some 23, op := Op.fieldAddr 48 (Operand.tmp 22) 8, type := 0, pos := "tree.go:154", after := #[{ on := 11, ground := Ground.data }, { on := 7, ground := Ground.guard }], guard := some (7, false) }) (v := undef) rfl rfl (by kernel_rfl) (by kernel_rfl) (by kernel_rfl) (fun _ _ _ h => h) ⟨Or.inr ⟨by kernel_rfl, rfl⟩, fun _ => rfl⟩ ?_;simp only [Act.put,jj4,jj5,jj6];refine wpAnyIn_take (i := 13) (oi := { dst := some 24, op := Op.load 22 (Operand.tmp 23), type := 22, pos := "tree.go:154", after := #[{ on := 12, ground := Ground.data }, { on := 7, ground := Ground.guard }], guard := some (7, false) }) (v := undef) rfl rfl (by kernel_rfl) (by kernel_rfl) (by kernel_rfl) (fun _ _ _ h => h) ⟨Or.inr ⟨by kernel_rfl, rfl⟩, fun _ => rfl⟩ ?_;simp only [Act.put,jj4,jj5,jj6];refine wpAnyIn_ready (rs:=[14]) (by kernel_rfl) (by simp) ?_;refine AllReadyIn.cons (o := { dst := some 25, op := Op.call { callee := Callee.value (Operand.tmp 19), args := #[Operand.tmp 24], argTypes := #[22] }, type := 4, pos := "tree.go:154", after := #[{ on := 8, ground := Ground.data }, { on := 13, ground := Ground.data }, { on := 7, ground := Ground.chain }, { on := 7, ground := Ground.guard }], guard := some (7, false) }) rfl (fun KL hKL => ?_) AllReadyIn.nil;refine KO (by kernel_rfl) (hKL _ _ ?_);clear hKL KL;simp only [Act.put,jj4,jj5,jj6];refine wpAnyIn_take (i := 15) (oi := { dst := some 26, op := Op.unOp UnOp.not 4 (Operand.tmp 25), type := 4, pos := "tree.go:154", after := #[{ on := 14, ground := Ground.data }, { on := 7, ground := Ground.guard }], guard := some (7, false) }) (v := undef) rfl rfl (by kernel_rfl) (by kernel_rfl) (by kernel_rfl) (fun _ _ _ h => h) ⟨Or.inr ⟨by kernel_rfl, rfl⟩, fun _ => rfl⟩ ?_;simp only [Act.put,jj4,jj5,jj6];refine wpAnyIn_take (i := 16) (oi := { dst := some 27, op := Op.pick (Operand.tmp 18) (Operand.const (Value.bool true)) (Operand.tmp 26), type := 4, pos := "tree.go:154", after := #[{ on := 7, ground := Ground.data }, { on := 15, ground := Ground.data }], guard := none }) (v := ?v16) rfl rfl (by kernel_rfl) (by kernel_rfl) (by kernel_rfl) (fun _ _ _ h => h) ⟨Or.inl ⟨by rfl, ?y16⟩, fun _ => rfl⟩ ?_;case y16=>(intro w;go_simp;try (with_reducible rfl))
             simp only [Act.put,jj4,jj5,jj6];refine wpAnyIn_done (by kernel_rfl) ?_ _;clear hKK KK
             gi_wp2
             go_ret;exact .inr ⟨rfl,q++[X],by simpa using HPF.out [] (by simp [tV]),by simpa using hx3⟩;obtain ⟨cw,ckk⟩:=HW3.out _ hk3)
          | (refine ⟨trivial,hdd _,?_⟩;refine (HCK.out _ hJ3 hk3).mono ?_;rintro e W4 ⟨b,rfl,h4⟩))
        all_goals
          rcases h4 with ⟨rfl,h4⟩ | ⟨rfl,h4⟩
          · gi_wp2
            go_roundw;case rel=>exact ⟨k+1,by omega,by go_num,h4⟩
            case measure=>simp [intOf];omega
          · gi_wp2
            go_ret;exact .inr ⟨rfl,h4⟩
      · have hkl:k=bs.length:=by omega
        subst hkl;rw [List.take_length] at hq;have HQ:=hid hq;clear hq
        gi_wp2
        go_ret;exact .inl ⟨rfl,q,HQ.out,hJq,hbq,hEq⟩
open Go.RowKit
theorem Jj {w:jmj} {r:Nat} {o:Obj} (ho:w.heap[r]?=some o) (hc:o.isCells=false) (j:Nat) (u:jmq):w.cell? ⟨r,j,none⟩≠some u:=by intro h;unfold World.cell? at h;rw [ho] at h;cases o<;>simp_all [Obj.isCells]
mutual
theorem Rd.wY {ok:Nat->Prop} {w w':jmj} (hz:w.heap.size<=w'.heap.size) (hs:∀ b,ok b->b<w.heap.size->(∃ j u,w.cell? ⟨b,j,none⟩=some u)->w'.heap[b]?=w.heap[b]?):∀ (d:D) (cs:List jmq),Rd ok w d cs->Rd ok w' d cs
  | .int _ _,_,h=>by unfold Rd at h ⊢;exact h
  | .bool _,_,h=>by unfold Rd at h ⊢;exact h
  | .str _,_,h=>by unfold Rd at h ⊢;exact h
  | .st fs,_,h=>by
    unfold Rd at h ⊢;obtain ⟨rows,hr,hc⟩:=h;exact ⟨rows,aI.wY hz hs fs rows hr,hc⟩
  | .sl k l,_,h=>by
    unfold Rd at h ⊢;obtain ⟨a,cap,rows,h1,h2,h3,h4,h5,h6⟩:=h;refine ⟨a,cap,rows,h1,h2,h3,aI.wY hz hs l rows h4,h5,?_⟩;rcases h6 with h6 | ⟨b,off,h7,h8,hb,h9⟩
    · exact .inl h6
    · exact .inr ⟨b,off,h7,h8,Nat.lt_of_lt_of_le hb hz,fun j u hu=>by rw [gY (hs b h8 hb ⟨_,_,h9 j u hu⟩)];exact h9 j u hu⟩
theorem aI.wY {ok:Nat->Prop} {w w':jmj} (hz:w.heap.size<=w'.heap.size) (hs:∀ b,ok b->b<w.heap.size->(∃ j u,w.cell? ⟨b,j,none⟩=some u)->w'.heap[b]?=w.heap[b]?):∀ (l:List D) (rows:List (List jmq)),aI ok w l rows->aI ok w' l rows
  | [],_,h=>by unfold aI at h ⊢;exact h
  | d::ds,_,h=>by
    unfold aI at h ⊢;obtain ⟨r,rs,h1,h2,h3⟩:=h;exact ⟨r,rs,h1,Rd.wY hz hs d r h2,aI.wY hz hs ds rs h3⟩
end
theorem Rd.zy {ok:Nat->Prop} {w w':jmj} {row:Option Nat} {d:D} {cs:List jmq} (h:Rd ok w d cs) (hg:w.grownBy w' row) (hr:∀ r,row=some r->∃ o:Obj,w.heap[r]?=some o/\o.isCells=false):Rd ok w' d cs:=
  Rd.wY hg.size (fun b _ hb ⟨j,u,hc⟩=>hg.block b hb (fun e=>by obtain ⟨o,k1,k2⟩:=hr b e.symm;exact Jj k1 k2 j u hc)) _ _ h
theorem aC.zy {T:TypeId} {k U:Nat} {ok:Nat->Prop} {w0 w w':jmj} {ds:List D} {rows:List (List jmq)} {v:jmq} {row:Option Nat} (h:aC T k ok U w0 ds rows v w) (hg:w.grownBy w' row) (hr:∀ r,row=some r->w0.heap.size<=r/\∃ o:Obj,w.heap[r]?=some o/\o.isCells=false):aC T k ok U w0 ds rows v w':=by
  refine ⟨?_,aI.wY hg.size (fun b _ hb ⟨j,u,hc⟩=>hg.block b hb (fun e=>by obtain ⟨-,o,k1,k2⟩:=hr b e.symm;exact Jj k1 k2 j u hc)) _ _ h.red,h.len,h.aP.grown hg h.aP.size (fun j hj=>(hr j hj).1),h.oU,h.og,Nat.le_trans h.xG hg.size⟩;obtain ⟨h1,h2⟩:=h.own;refine ⟨h1,?_⟩;rcases h2 with h2 | ⟨g,cap,cur,rfl,r2,r3,r4⟩
  · exact .inl h2
  · exact .inr ⟨g,cap,cur,rfl,r2,(hg.block g (Array.getElem?_eq_some_iff.1 r3).1 (fun e=>by
      obtain ⟨-,o,k1,k2⟩:=hr g e.symm;rw [r3] at k1;cases k1;cases k2)).trans r3,r4⟩
theorem Rd.slB {ok:Nat->Prop} {w:jmj} {k:Nat} {l:List D} {rows:List (List jmq)} {b cap:Nat} (hl:l.length<=cap) (hm:cap<=maxLen) (h:aI ok w l rows) (hk:∀ r∈rows,r.length=k) (hok:ok b) (hb:b<w.heap.size) (hc:∀ j u,rows.flatten[j]?=some u->w.cell? ⟨b,j,none⟩=some u):Rd ok w (.sl k l) [.slice (some ⟨b,0,none⟩) l.length cap]:=by unfold Rd;exact ⟨_,cap,rows,rfl,hl,hm,h,hk,.inr ⟨b,0,rfl,hok,hb,fun j u hu=>by rw [Nat.zero_add];exact hc j u hu⟩⟩
end Go.Proofs.YtkfnkeflalcphaaGreatDoor

