/- publisherref04.heavy: how many parts blocks have. publisherref04.Small: what it says of a document where it answers true. -/
import Derived.Test.YtkfnkeflalcphaaGreatDoorMSame
import Derived.Deep.RegionHeld3
set_option maxHeartbeats 8000000
set_option maxRecDepth 100000
open Go.Lib (hid)
namespace Go.Proofs.YtkfnkeflalcphaaGreatDoor
open Tryz
open Go.RowKit
set_option linter.unusedVariables false
set_option linter.unusedSimpArgs false
mutual
def ah.small:ah->Prop
 | .mk k lv i t d ti a li ks=>i.size<=300/\t.size<=300/\d.size<=300/\ti.size<=300/\a.short/\aj.ay li/\aj.aU li<=120/\ah.ay ks
def ah.ay:List ah->Prop
 | []=>True
 | x::l=>x.small/\ah.ay l
end
mutual
def ah.all:ah->Nat
 | .mk _ _ _ _ _ _ _ li ks=>1+aj.aU li+ah.bU ks
def ah.bU:List ah->Nat
 | []=>0
 | x::l=>x.all+ah.bU l
end
theorem ah.j5:∀ (l m:List ah),ah.ay l->ah.ay m->ah.ay (l++m)
 | [],m,_,h=>h
 | x::l,m,h,h2=>by unfold ah.ay at h;rw [List.cons_append];unfold ah.ay;exact ⟨h.1,ah.j5 l m h.2 h2⟩
theorem ah.pq {l:List ah} {k:Nat} {x:ah} (hx:l[k]?=some x) (h:ah.ay (l.take k)) (h2:x.small):ah.ay (l.take (k+1)):=by rw [List.take_add_one,hx];exact ah.j5 _ _ h (by unfold Option.toList ah.ay;exact ⟨h2,by unfold ah.ay;trivial⟩)
theorem ah.Lj (l m:List ah):ah.bU (l++m)=ah.bU l+ah.bU m:=by
 induction l with
 | nil=>rw [ah.bU];simp
 | cons x l ih=>rw [List.cons_append,ah.bU,ah.bU,ih];omega
theorem ah.qw {l:List ah} {k:Nat} {x:ah} (hx:l[k]?=some x):ah.bU (l.take (k+1))=ah.bU (l.take k)+x.all:=by rw [List.take_add_one,hx,ah.Lj];simp [ah.bU]
theorem ah.uY:∀ {l:List ah} {k:Nat} {x:ah},ah.yh l->l[k]?=some x->x.wf
 | [],_,_,_,h=>by simp at h
 | y::l,0,x,hw,h=>by unfold ah.yh at hw;simp at h;subst h;exact hw.1
 | y::l,k+1,x,hw,h=>by unfold ah.yh at hw;exact ah.uY hw.2 (by simpa using h)
theorem jh6{P:Prop}(h:P:=by
 obtain ⟨c0,c1,c2,c3,c4,c5,c6,c7,c8,c9,c10⟩:=h;exact ⟨(lI hb _).trans c0,(lI hb _).trans c1,(lI hb _).trans c2,(lI hb _).trans c3,(lI hb _).trans c4,(lI hb _).trans c5,(lI hb _).trans c6,(lI hb _).trans c7,(lI hb _).trans c8,(lI hb _).trans c9,(lI hb _).trans c10⟩):P:=h
theorem dA.at2 {w w':World} {b o:Nat} {k lv:Int} {i t d ti id:ByteArray} {vc vp vl vk:Value} (h:dA w b o k lv i t d ti id vc vp vl vk) (hb:w'.heap[b]?=w.heap[b]?):dA w' b o k lv i t d ti id vc vp vl vk:=by exact jh6
theorem jI {x:Int} (h1:-9223372036854775808<=x) (h2:x<=9223372036854775807):IntKind.i64.wrap x=x:=by rw [IntKind.wrap_i64];omega
def hvB (dp:Nat):Nat:=(22-dp)*(23*140737488355328)
def Yz (w:World) (l:List ah) (dp:Nat) (e:Ending) (w':World):Prop:=
 ∃ m:Nat,e=.returned (.int .i64 m)/\m<=hvB dp/\(m<=120->ah.ay l/\ah.bU l<=m)/\Below w.heap.size w w'
def jp4 (w:World) (l:List ah) (dp:Nat) (vn vi:Value) (wr:World):Prop:=
 ∃ k n:Nat,k<=l.length/\vi=.int .i64 k/\vn=.int .i64 n/\n<=hvB dp/\(n<=120->ah.ay (l.take k)/\ah.bU (l.take k)+(l.length-k)<=n)/\Below w.heap.size w wr
theorem YA{P:Prop}(h:P:=by
 refine ⟨k+1,m+(wk+hv),by omega,by go_num,by go_num,by unfold hvB;omega,(fun h=>?_),HB7.out⟩;obtain ⟨i1,i2⟩:=Gc.out (by omega);obtain ⟨j1,j2⟩:=HW2.out (by omega);obtain ⟨l1,l2⟩:=HH2.out (by omega);have hsn:=ah.qw HX.out;rw [ah.all] at hsn;refine ⟨ah.pq HX.out i1 (by unfold ah.small;exact ⟨by omega,by omega,by omega,by omega,HSH.out trivial,j1,by omega,l1⟩),by omega⟩):P:=h
theorem jp5{P:Prop}(h:P:=by
 rintro e w'' ⟨m,rfl,h1,h2,h3⟩;have hb2:=q01 hb h3;have hc:=Yb.out.below hb2;exact ⟨m,rfl,h1,h2,hc.cell 9 _ rfl,hc.cell 10 _ rfl,hb2⟩):P:=h
theorem jp6{P:Prop}(h:P:=by
 clear HS IH Zb;go_enter func31,ntmps31;go_wp2;go_ret;exact ⟨1000,rfl,by unfold hvB;omega,(fun h=>by omega),Below.refl _ _⟩):P:=h
theorem S9 (n:Nat):∀ (l:List ah) (dp:Nat) (v:Value) (w:World),ah.aU l<=n->dp<=21->Rd (·<w.heap.size) w (iC l) [v]->ah.yh l -> Calls prog 31 #[v,.int .i64 dp] w (Yz w l dp):=by
 induction n using Nat.strongRecOn with
 | _ n ih=>
  intro l dp v w hn hdp hrd hwf;obtain ⟨a,cap,hv,hs⟩:=Rd.aB hrd;obtain rfl:v=.slice a l.length cap:=by simpa using hv
  refine qJ ?_;intro hcap hmx HS;have IH:=hid ih;have Zb:=hid hwf;clear hs hv hrd ih hwf;by_cases hd:20<dp
  ·have e1:decide ((20:Int)<(dp:Int))=true:=by simp;omega
   exact jp6
  have e1:decide ((20:Int)<(dp:Int))=false:=by simp;omega
  by_cases h2:200<l.length
  ·have e2:decide ((200:Int)<(l.length:Int))=true:=by simp;omega
   exact jp6
  have e2:decide ((200:Int)<(l.length:Int))=false:=by simp;omega
  have R0:Hid (jp4 w l dp (.int .i64 l.length) (.int .i64 0) w):=⟨0,l.length,Nat.zero_le _,rfl,rfl,by unfold hvB;omega,(fun _=>⟨by rw [List.take_zero];unfold ah.ay;trivial,by rw [List.take_zero,ah.bU];omega⟩),Below.refl _ _⟩;go_enter func31,ntmps31;go_wp2
  go_loopw [5,6] (fun vn vi wr=>jp4 w l dp vn vi wr) (fun _ i _=>l.length-(intOf i).toNat)
  case atStart=>exact R0.out
  case round=>
   clear R0;obtain ⟨k,m,hk,rfl,rfl,hm,hall,hbel⟩:=hrel;have Gc:=hid hall;have jg:=hid hbel;clear hall hbel;unfold hvB at hm;by_cases hlt:k<l.length
   ·by_cases hm1:m<1000
    ·have e3:decide ((m:Int)<(1000:Int))=true:=by simp;omega
     obtain ⟨x,hx⟩:∃ x,l[k]?=some x:=⟨_,List.getElem?_eq_getElem hlt⟩;obtain ⟨kd,lv,inf,t,d,ti,at_,li,ks⟩:=x;obtain ⟨g,off,vc,vp,vl,vk,rfl,hok,hbl,hc,hR⟩:=Mr HS.out hx;have hx2:=ah.uY Zb.out hx;unfold ah.wf zl at hx2;obtain ⟨x0,x1,x2,x3,x4,x5,x6,x7,x8,x9,x10⟩:=hx2;rw [lq] at x2 x3 x4 x5;unfold D9 at x2 x3 x4 x5;have hsz:=ah.bK l k _ hx;rw [ah.sz] at hsz;obtain ⟨ac,nc,cc,rfl⟩:=Rd.yJ hR.at_.cls
     obtain ⟨ap,np,cp,rfl⟩:=Rd.yJ hR.at_.aD
     obtain ⟨al,nl,cl,rfl⟩:=Rd.yJ hR.line;obtain ⟨ak,nk,ck,rfl⟩:=Rd.yJ hR.kids;obtain ⟨c0,c1,c2,c3,c4,c5,c6,c7,c8,c9,c10⟩:=hc.at2 (w':=wr) (jg.out.block g hok);have HR:=hid hR;have HX:=hid hx;have X6:=hid x6;have X7:=hid x7;have X9:=hid x9;clear hc hR hx x0 x1 x6 x7 x8 x9 x10;go_upto_region 8 with (fail)
     obtain ⟨wa,hwa⟩:∃ wa,wa=wr.alloc (.cells #[.int .i64 kd,.int .i64 lv,.string inf,.string t,.string d,.string ti,.string at_.id,.slice ac nc cc,.slice ap np cp,.slice al nl cl,.slice ak nk ck] 48):=⟨_,rfl⟩;have hcb:CB 48 wr.heap.size [.int .i64 kd,.int .i64 lv,.string inf,.string t,.string d,.string ti,.string at_.id,.slice ac nc cc,.slice ap np cp,.slice al nl cl,.slice ak nk ck] wa:=by rw [hwa];exact CB.new _ _ _
     have hba:Below w.heap.size w wa:=by rw [hwa];exact jg.out.alloc jg.out.size _
     rw [<- hwa];clear hwa c0 c1 c2 c3 c4 c5 c6 c7 c8 c9 c10;have d2:=hcb.cell 2 _ rfl;have d3:=hcb.cell 3 _ rfl;have d4:=hcb.cell 4 _ rfl;have d5:=hcb.cell 5 _ rfl;have d6:=hcb.cell 6 _ rfl;have d7:=hcb.cell 7 _ rfl;have d8:=hcb.cell 8 _ rfl;have xQ:=hid hcb;have I8:=hid hba;have LG:=hid (Lf at_ _ _ wa (HR.out.at_.up hba) X6.out);clear hcb hba;by_cases h3:300<t.size+inf.size+d.size+ti.size
     ·have e4:decide ((300:Int)<(t.size:Int)+(inf.size:Int)+(d.size:Int)+(ti.size:Int))=true:=by simp;omega
      go_wp2;go_ret;exact ⟨1000,rfl,by unfold hvB;omega,(fun h=>by omega),I8.out⟩
     have e4:decide ((300:Int)<(t.size:Int)+(inf.size:Int)+(d.size:Int)+(ti.size:Int))=false:=by simp;omega
     go_wp2_with fail
     refine LG.out.mono ?_;rintro e wb ⟨b,rfl,hsh,hbb⟩;have Ym:=q01 I8.out hbb;have Hz:=xQ.out.below hbb;have d9:=Hz.cell 9 _ rfl;have d10:=Hz.cell 10 _ rfl;have HSH:=hid hsh;have zS:=hid Ym;have Yb:=hid Hz;clear LG I8 xQ d2 d3 d4 d5 d6 d7 d8 hsh hbb Ym Hz;cases b with
     | true=>
      go_wp2;go_ret;exact ⟨1000,rfl,by unfold hvB;omega,(fun h=>by omega),zS.out⟩
     | false=>
     have S0:wb.drew.cell? ⟨wr.heap.size,9,none⟩=some (.slice al nl cl)/\wb.drew.cell? ⟨wr.heap.size,10,none⟩=some (.slice ak nk ck)/\Below wb.heap.size wb wb.drew:=⟨d9,d10,gQ (Below.refl _ _) 1⟩;have CW:Hid (∀ w',Below wb.heap.size wb w'->Calls prog 76 #[.slice al nl cl,.int .i64 0] w' fun e w''=>∃ m:Nat,e=.returned (.int .i64 m)/\m<=22*140737488355328/\(m<=120->aj.ay li/\aj.aU li<=m)/\w''.cell? ⟨wr.heap.size,9,none⟩=some (.slice al nl cl)/\w''.cell? ⟨wr.heap.size,10,none⟩=some (.slice ak nk ck)/\Below wb.heap.size wb w''):=by intro w' hb;refine (Om (aj.aU li) li 0 (.slice al nl cl) w' (Nat.le_refl _) (by omega) ((HR.out.line.up zS.out).up hb) X7.out).mono ?_;exact jp5
     have CH:Hid (∀ w',Below wb.heap.size wb w'->Calls prog 31 #[.slice ak nk ck,.int .i64 ((dp:Int)+1)] w' fun e w''=>∃ m:Nat,e=.returned (.int .i64 m)/\m<=(22-(dp+1))*(23*140737488355328)/\(m<=120->ah.ay ks/\ah.bU ks<=m)/\w''.cell? ⟨wr.heap.size,9,none⟩=some (.slice al nl cl)/\w''.cell? ⟨wr.heap.size,10,none⟩=some (.slice ak nk ck)/\Below wb.heap.size wb w''):=by intro w' hb;refine (IH.out (ah.aU ks) (by omega) ks (dp+1) (.slice ak nk ck) w' (Nat.le_refl _) (by omega) ((HR.out.kids.up zS.out).up hb) X9.out).mono ?_;exact jp5
     have IHW:=IH;clear IH HS Zb;go_wp2_with fail
     refine wp_region_any (by kernel_rfl) ?_;change wpAny _ _ _ _ _ _ _ (World.drew _);refine wpAny_take (i := 0) (oi := { dst := some 51, op := Op.move (Operand.tmp 5), type := 3, pos := "ref.go:633", after := #[], guard := none }) (v := ?jJq) rfl (by kernel_rfl) (by kernel_rfl) (by kernel_rfl) (fun _ _ _ h => h) (Or.inl ⟨by rfl, ?jGx⟩) ?_;case jGx=>(intro w;go_simp;try (with_reducible rfl))
     refine wpAny_take (i := 1) (oi := { dst := some 52, op := Op.fieldAddr 48 (Operand.tmp 7) 7, type := 0, pos := "ref.go:633", after := #[], guard := none }) (v := ?jJx) rfl (by kernel_rfl) (by kernel_rfl) (by kernel_rfl) (fun _ _ _ h => h) (Or.inl ⟨by rfl, ?jGz⟩) ?_;case jGz=>(intro w;go_simp;try (with_reducible rfl))
     refine wpAny_take (i := 4) (oi := { dst := some 55, op := Op.fieldAddr 48 (Operand.tmp 7) 8, type := 0, pos := "ref.go:633", after := #[], guard := none }) (v := ?jJz) rfl (by kernel_rfl) (by kernel_rfl) (by kernel_rfl) (fun _ _ _ h => h) (Or.inl ⟨by rfl, ?jH0⟩) ?_;case jH0=>(intro w;go_simp;try (with_reducible rfl))
     refine wpAny_take (i := 6) (oi := { dst := some 57, op := Op.move (Operand.tmp 1), type := 3, pos := "ref.go:633", after := #[], guard := none }) (v := ?jK0) rfl (by kernel_rfl) (by kernel_rfl) (by kernel_rfl) (fun _ _ _ h => h) (Or.inl ⟨by rfl, ?jH1⟩) ?_;case jH1=>(intro w;go_simp;try (with_reducible rfl))
     refine wpAny_take (i := 7) (oi := { dst := some 58, op := Op.binOp BinOp.add 3 (Operand.tmp 57) (Operand.const (Value.int IntKind.i64 1)) 3, type := 3, pos := "ref.go:633", after := #[{ on := 6, ground := Ground.data }], guard := none }) (v := .int .i64 ((dp : Int) + 1)) rfl (by kernel_rfl) (by kernel_rfl) (by kernel_rfl) (fun _ _ _ h => h) (Or.inl ⟨by rfl, ?jH2⟩) ?_;case jH2=>(intro w;go_simp;try (exact jI (by omega) (by omega)))
     refine wpAny_ready (rs:=[2,5]) (by kernel_rfl) (by simp) ?_;refine AllReady.cons rfl (fun K hK=>?_) (AllReady.cons rfl (fun K hK=>?_) AllReady.nil)
     ·
      go_simp;refine hK _ _ ?_;clear hK K;refine wpAny_ready (rs:=[3,5]) (by kernel_rfl) (by simp) ?_;refine AllReady.cons rfl (fun K hK=>?_) (AllReady.cons rfl (fun K hK=>?_) AllReady.nil)
      ·
       go_simp;refine (CW.out _ S0.2.2).mono ?_;rintro e w6 ⟨wk,rfl,hwk,Cy,g9,g10,b6⟩;have HW2:=hid Cy;clear Cy;dsimp only;refine hK _ _ ?_;clear hK K;refine wpAny_ready (rs:=[5]) (by kernel_rfl) (by simp) ?_;refine AllReady.cons rfl (fun K hK=>?_) AllReady.nil;go_simp;refine hK _ _ ?_;clear hK K;refine wpAny_ready (rs:=[8]) (by kernel_rfl) (by simp) ?_;refine AllReady.cons rfl (fun K hK=>?_) AllReady.nil;go_simp;refine (CH.out _ b6).mono ?_;rintro e w7 ⟨hv,rfl,hhv,Lm,-,-,b7⟩;have HH2:=hid Lm;have HB7:=hid (q01 zS.out b7);clear Lm;dsimp only;refine hK _ _ ?_;clear hK K;refine wpAny_take (i := 9) (oi := { dst := some 60, op := Op.binOp BinOp.add 3 (Operand.tmp 54) (Operand.tmp 59) 3, type := 3, pos := "ref.go:633", after := #[{ on := 3, ground := Ground.data }, { on := 8, ground := Ground.data }], guard := none }) (v := .int .i64 ((wk : Int) + (hv : Int))) rfl (by kernel_rfl) (by kernel_rfl) (by kernel_rfl) (fun _ _ _ h => h) (Or.inl ⟨by rfl, ?jH3⟩) ?_;case jH3=>(intro w;go_simp;try (exact jI (by omega) (by omega)))
       refine wpAny_take (i := 10) (oi := { dst := some 61, op := Op.binOp BinOp.add 3 (Operand.tmp 51) (Operand.tmp 60) 3, type := 3, pos := "ref.go:633", after := #[{ on := 0, ground := Ground.data }, { on := 9, ground := Ground.data }], guard := none }) (v := .int .i64 ((m : Int) + ((wk : Int) + (hv : Int)))) rfl (by kernel_rfl) (by kernel_rfl) (by kernel_rfl) (fun _ _ _ h => h) (Or.inl ⟨by rfl, ?jC9⟩) ?_;case jC9=>(intro w;go_simp;try (exact jI (by omega) (by omega)))
       refine wpAny_take (i := 11) (oi := { dst := some 5, op := Op.assign (Operand.tmp 61), type := 3, pos := "ref.go:633", after := #[{ on := 10, ground := Ground.data }, { on := 8, ground := Ground.chain }, { on := 0, ground := Ground.phase }, { on := 1, ground := Ground.phase }, { on := 2, ground := Ground.phase }, { on := 3, ground := Ground.phase }, { on := 4, ground := Ground.phase }, { on := 5, ground := Ground.phase }, { on := 6, ground := Ground.phase }, { on := 7, ground := Ground.phase }, { on := 8, ground := Ground.phase }, { on := 9, ground := Ground.phase }, { on := 10, ground := Ground.phase }], guard := none }) (v := ?jI6) rfl (by kernel_rfl) (by kernel_rfl) (by kernel_rfl) (fun _ _ _ h => h) (Or.inl ⟨by rfl, ?jCj⟩) ?_;case jCj=>(intro w;go_simp;try (with_reducible rfl))
       refine wpAny_done (by kernel_rfl) ?_ _;go_wp2;go_roundw;case rel=>
        exact YA
       case measure=>simp [intOf];omega
      ·
       go_simp;refine hK _ _ ?_;clear hK K;refine wpAny_ready (rs:=[3]) (by kernel_rfl) (by simp) ?_;refine AllReady.cons rfl (fun K hK=>?_) AllReady.nil;go_simp;refine (CW.out _ S0.2.2).mono ?_;rintro e w6 ⟨wk,rfl,hwk,Cy,g9,g10,b6⟩;have HW2:=hid Cy;clear Cy;dsimp only;refine hK _ _ ?_;clear hK K;refine wpAny_ready (rs:=[8]) (by kernel_rfl) (by simp) ?_;refine AllReady.cons rfl (fun K hK=>?_) AllReady.nil;go_simp;refine (CH.out _ b6).mono ?_;rintro e w7 ⟨hv,rfl,hhv,Lm,-,-,b7⟩;have HH2:=hid Lm;have HB7:=hid (q01 zS.out b7);clear Lm;dsimp only;refine hK _ _ ?_;clear hK K;refine wpAny_take (i := 9) (oi := { dst := some 60, op := Op.binOp BinOp.add 3 (Operand.tmp 54) (Operand.tmp 59) 3, type := 3, pos := "ref.go:633", after := #[{ on := 3, ground := Ground.data }, { on := 8, ground := Ground.data }], guard := none }) (v := .int .i64 ((wk : Int) + (hv : Int))) rfl (by kernel_rfl) (by kernel_rfl) (by kernel_rfl) (fun _ _ _ h => h) (Or.inl ⟨by rfl, ?jH4⟩) ?_;case jH4=>(intro w;go_simp;try (exact jI (by omega) (by omega)))
       refine wpAny_take (i := 10) (oi := { dst := some 61, op := Op.binOp BinOp.add 3 (Operand.tmp 51) (Operand.tmp 60) 3, type := 3, pos := "ref.go:633", after := #[{ on := 0, ground := Ground.data }, { on := 9, ground := Ground.data }], guard := none }) (v := .int .i64 ((m : Int) + ((wk : Int) + (hv : Int)))) rfl (by kernel_rfl) (by kernel_rfl) (by kernel_rfl) (fun _ _ _ h => h) (Or.inl ⟨by rfl, ?jv8⟩) ?_;case jv8=>(intro w;go_simp;try (exact jI (by omega) (by omega)))
       refine wpAny_take (i := 11) (oi := { dst := some 5, op := Op.assign (Operand.tmp 61), type := 3, pos := "ref.go:633", after := #[{ on := 10, ground := Ground.data }, { on := 8, ground := Ground.chain }, { on := 0, ground := Ground.phase }, { on := 1, ground := Ground.phase }, { on := 2, ground := Ground.phase }, { on := 3, ground := Ground.phase }, { on := 4, ground := Ground.phase }, { on := 5, ground := Ground.phase }, { on := 6, ground := Ground.phase }, { on := 7, ground := Ground.phase }, { on := 8, ground := Ground.phase }, { on := 9, ground := Ground.phase }, { on := 10, ground := Ground.phase }], guard := none }) (v := ?jH5) rfl (by kernel_rfl) (by kernel_rfl) (by kernel_rfl) (fun _ _ _ h => h) (Or.inl ⟨by rfl, ?jv9⟩) ?_;case jv9=>(intro w;go_simp;try (with_reducible rfl))
       refine wpAny_done (by kernel_rfl) ?_ _;go_wp2;go_roundw;case rel=>
        exact YA
       case measure=>simp [intOf];omega
     ·
      go_simp;refine hK _ _ ?_;clear hK K;refine wpAny_ready (rs:=[2]) (by kernel_rfl) (by simp) ?_;refine AllReady.cons rfl (fun K hK=>?_) AllReady.nil;go_simp;refine hK _ _ ?_;clear hK K;refine wpAny_ready (rs:=[3]) (by kernel_rfl) (by simp) ?_;refine AllReady.cons rfl (fun K hK=>?_) AllReady.nil;go_simp;refine (CW.out _ S0.2.2).mono ?_;rintro e w6 ⟨wk,rfl,hwk,Cy,g9,g10,b6⟩;have HW2:=hid Cy;clear Cy;dsimp only;refine hK _ _ ?_;clear hK K;refine wpAny_ready (rs:=[8]) (by kernel_rfl) (by simp) ?_;refine AllReady.cons rfl (fun K hK=>?_) AllReady.nil;go_simp;refine (CH.out _ b6).mono ?_;rintro e w7 ⟨hv,rfl,hhv,Lm,-,-,b7⟩;have HH2:=hid Lm;have HB7:=hid (q01 zS.out b7);clear Lm;dsimp only;refine hK _ _ ?_;clear hK K;refine wpAny_take (i := 9) (oi := { dst := some 60, op := Op.binOp BinOp.add 3 (Operand.tmp 54) (Operand.tmp 59) 3, type := 3, pos := "ref.go:633", after := #[{ on := 3, ground := Ground.data }, { on := 8, ground := Ground.data }], guard := none }) (v := .int .i64 ((wk : Int) + (hv : Int))) rfl (by kernel_rfl) (by kernel_rfl) (by kernel_rfl) (fun _ _ _ h => h) (Or.inl ⟨by rfl, ?jCk⟩) ?_;case jCk=>(intro w;go_simp;try (exact jI (by omega) (by omega)))
      refine wpAny_take (i := 10) (oi := { dst := some 61, op := Op.binOp BinOp.add 3 (Operand.tmp 51) (Operand.tmp 60) 3, type := 3, pos := "ref.go:633", after := #[{ on := 0, ground := Ground.data }, { on := 9, ground := Ground.data }], guard := none }) (v := .int .i64 ((m : Int) + ((wk : Int) + (hv : Int)))) rfl (by kernel_rfl) (by kernel_rfl) (by kernel_rfl) (fun _ _ _ h => h) (Or.inl ⟨by rfl, ?jvj⟩) ?_;case jvj=>(intro w;go_simp;try (exact jI (by omega) (by omega)))
      refine wpAny_take (i := 11) (oi := { dst := some 5, op := Op.assign (Operand.tmp 61), type := 3, pos := "ref.go:633", after := #[{ on := 10, ground := Ground.data }, { on := 8, ground := Ground.chain }, { on := 0, ground := Ground.phase }, { on := 1, ground := Ground.phase }, { on := 2, ground := Ground.phase }, { on := 3, ground := Ground.phase }, { on := 4, ground := Ground.phase }, { on := 5, ground := Ground.phase }, { on := 6, ground := Ground.phase }, { on := 7, ground := Ground.phase }, { on := 8, ground := Ground.phase }, { on := 9, ground := Ground.phase }, { on := 10, ground := Ground.phase }], guard := none }) (v := ?jH6) rfl (by kernel_rfl) (by kernel_rfl) (by kernel_rfl) (fun _ _ _ h => h) (Or.inl ⟨by rfl, ?jvk⟩) ?_;case jvk=>(intro w;go_simp;try (with_reducible rfl))
      refine wpAny_done (by kernel_rfl) ?_ _;go_wp2;go_roundw;case rel=>
       exact YA
      case measure=>simp [intOf];omega
    ·have e3:decide ((m:Int)<(1000:Int))=false:=by simp;omega
     clear HS IH Zb;go_wp2;go_ret;exact ⟨m,rfl,by unfold hvB;omega,(fun h=>by omega),jg.out⟩
   ·have hkl:k=l.length:=by omega
    subst hkl;clear HS IH Zb;go_wp2;go_ret;refine ⟨m,rfl,by unfold hvB;omega,(fun h=>?_),jg.out⟩;have:=Gc.out h;rw [List.take_length] at this;exact ⟨this.1,by omega⟩
open Go.RowKit
structure YB (me:List Pr) (l:List ah):Prop where
 meta_:me.length<=70
 jH7:∀ p∈me,p.key.size<=300/\p.val.size<=300
 blks:ah.ay l
 all:ah.bU l<=120
def jp7 (me:List Pr) (w0:World) (vi:Value) (wr:World):Prop:=∃ k q:Nat,k<=me.length/\vi=.int .i64 k/\(∀ p∈me.take k,p.key.size<=300/\p.val.size<=300)/\wr=w0.drewN q
theorem Ta (me:List Pr) (l:List ah) (vm vb:Value) (w:World) (hm:Rd (·<w.heap.size) w (dx me) [vm]) (hb:Rd (·<w.heap.size) w (iC l) [vb]) (hwm:∀ p∈me,p.wf) (hwl:ah.yh l) : Calls prog 11 #[.agg #[vm,vb]] w fun e w'=>∃ b,e=.returned (.bool b)/\(b=true->YB me l)/\Below w.heap.size w w':=by
 obtain ⟨am,cm,Y5,hsm⟩:=Rd.aB hm;obtain rfl:vm=.slice am me.length cm:=by simpa using Y5
 have hcm:me.length<=cm:=by simpa using hsm.le
 have hmm:=hsm.max;unfold maxLen at hmm;obtain ⟨ab,nb,cb,rfl⟩:=Rd.yJ hb;obtain ⟨w0,hw0⟩:∃ w0,w0=w.alloc (.cells #[.slice am me.length cm,.slice ab nb cb] 26):=⟨_,rfl⟩;have hb0:Below w.heap.size w w0:=by rw [hw0];exact (Below.refl _ _).alloc (Nat.le_refl _) _
 have q0:w0.cell? ⟨w.heap.size,0,none⟩=some (.slice am me.length cm):=by rw [hw0];exact IV w [.slice am me.length cm,.slice ab nb cb] _ 0 _ rfl
 have q1:w0.cell? ⟨w.heap.size,1,none⟩=some (.slice ab nb cb):=by rw [hw0];exact IV w [.slice am me.length cm,.slice ab nb cb] _ 1 _ rfl
 have HP:Hid (∀ k p,me[k]?=some p->∃ b off,am=some ⟨b,off,none⟩/\w0.cell? ⟨b,off+k*2,none⟩=some (.string p.key)/\w0.cell? ⟨b,off+k*2+1,none⟩=some (.string p.val)/\p.key.size<=140737488351232/\p.val.size<=140737488351232):=by intro k p hp;obtain ⟨b,off,ha,hok,hb,c0,c1⟩:=jU hsm hp;have hw:=hwm p (List.mem_of_getElem? hp);unfold Pr.wf zl at hw;rw [lq] at hw;exact ⟨b,off,ha,(lI (hb0.block b hok) _).trans c0,(lI (hb0.block b hok) _).trans c1,hw⟩
 have HV:Hid (∀ q,Calls prog 31 #[.slice ab nb cb,.int .i64 0] (w0.drewN q) (Yz (w0.drewN q) l 0)):=fun q=>S9 (ah.aU l) l 0 (.slice ab nb cb) (w0.drewN q) (Nat.le_refl _) (by omega) ((hb.up hb0).up (gQ (Below.refl _ _) q)) hwl
 have HB0:=hid hb0;clear hm hb hsm Y5 hwm hwl hb0;by_cases h70:70<me.length
 ·have e1:decide ((70:Int)<(me.length:Int))=true:=by simp;omega
  clear HP HV;go_enter func11,ntmps11;go_upto_region 1 with (fail)
  rw [<- hw0];clear hw0;go_wp2;go_ret;exact ⟨false,rfl,(fun h=>by cases h),HB0.out⟩
 have e1:decide ((70:Int)<(me.length:Int))=false:=by simp;omega
 have R1:Hid (jp7 me w0 (.int .i64 0) w0):=⟨0,0,Nat.zero_le _,rfl,by simp,rfl⟩;go_enter func11,ntmps11;go_upto_region 1 with (fail)
 rw [<- hw0];clear hw0;go_wp2
 go_loopw [3] (fun vi wr=>jp7 me w0 vi wr) (fun i _=>me.length-(intOf i).toNat)
 case atStart=>exact R1.out
 case round=>
  clear R1;obtain ⟨k,q,hk,rfl,hall,rfl⟩:=hrel;have HA:=hid hall;clear hall;by_cases hlt:k<me.length
  ·obtain ⟨p,hp⟩:∃ p,me[k]?=some p:=⟨_,List.getElem?_eq_getElem hlt⟩;obtain ⟨b,off,rfl,c0,c1,hy1,hy2⟩:=HP.out k p hp;have HY:=hid hp;clear hp;obtain ⟨py,pv⟩:=p;dsimp only at c0 c1 hy1 hy2;by_cases h3:300<py.size+pv.size
   ·have e2:decide ((300:Int)<(py.size:Int)+(pv.size:Int))=true:=by simp;omega
    go_wp2_with fail
    go_quiet (fail)
    go_wp2;go_ret;exact ⟨false,rfl,(fun h=>by cases h),gQ (gQ HB0.out q) nq⟩
   ·have e2:decide ((300:Int)<(py.size:Int)+(pv.size:Int))=false:=by simp;omega
    go_wp2_with fail
    go_quiet (fail)
    go_wp2;go_roundw;case rel=>exact ⟨k+1,_,by omega,by go_num,q31 HY.out HA.out ⟨by show py.size<=300;omega,by show pv.size<=300;omega⟩,rfl⟩
    case measure=>simp [intOf];omega
  ·have hkl:k=me.length:=by omega
   subst hkl;clear HP;go_wp2_with fail
   refine (HV.out q).mono ?_;rintro e w2 ⟨m,rfl,hm1,hm2,hb2⟩;have HM2:=hid hm2;have HB2:=hid (q01 (gQ HB0.out q) hb2);clear hm2 hb2 HV;by_cases h1:m<=120
   ·have e3:decide ((m:Int)<=(120:Int))=true:=by simp;omega
    go_wp2;go_ret;refine ⟨true,rfl,fun _=>?_,HB2.out⟩;obtain ⟨i1,i2⟩:=HM2.out h1;have hA:=HA.out;rw [List.take_length] at hA;exact ⟨by omega,hA,i1,by omega⟩
   ·have e3:decide ((m:Int)<=(120:Int))=false:=by simp;omega
    go_wp2;go_ret;exact ⟨false,rfl,(fun h=>by cases h),HB2.out⟩
end Go.Proofs.YtkfnkeflalcphaaGreatDoor

