/- Printed by a program: the walk. -/
import Derived.Test.YtkghndikalnipabGreatZTh
set_option linter.unusedSimpArgs false
set_option linter.unusedVariables false
namespace Go.Proofs.YtkghndikalnipabGreat.En
open Go.IntKind renaming wrap→aaV
open Go
abbrev B8:=@Int.toNat_natCast
abbrev B9:=@Int.natCast_nonneg
abbrev Ca:=@Int.ofNat_lt
abbrev Cb:=@Int.lt_irrefl
abbrev Cc:=@List.getElem_mem
abbrev Cd:=@List.length_set
abbrev Ce:=@List.take_length
abbrev Cf:=@List.pairwise_iff_getElem
abbrev Cg:=@List.take_add_one
abbrev Ch:=@List.filter_append
abbrev Ci:=@Nat.le_succ_of_le
abbrev Cj:=@List.pairwise_append
abbrev Cm:=@Sum.elim_inl
abbrev Cn:=@List.length_filter_le
abbrev Cp:=@List.getElem?_set_ne
abbrev Cq:=@Sum.elim_inr
abbrev Cr:=@List.pairwise_singleton
abbrev Ct:=@List.getElem?_set_self
abbrev Cu:=@List.pairwise_cons
abbrev Cv:=@Nat.sub_zero
abbrev Cw:=@List.mem_filter
abbrev Cx:=@List.getElem_take
abbrev Cy:=@Int.toNat_of_nonneg
abbrev Cz:=@Int.toNat_zero
abbrev CA:=@List.flatten_append
abbrev CB:=@Bool.false_and
noncomputable section
abbrev HS:List Ty:=[.i .i64]
abbrev Jt:List Ty:=[.ls (.i .i64)]
abbrev MU:List Ty:=[.st .cluster,.i .i64]
abbrev Tn:List Ty:=[.ls (.st .entry)]
abbrev Ul:List Ty:=[.st .cluster]
abbrev Wx:List Ty:=[.st .config,.b]
abbrev Yq:List Ty:=[.st .server]
abbrev Yr:List Ty:=[.st .config]
abbrev Yt:List Ty:=[.st .masterLog]
abbrev Yu:List Ty:=[.st .masterLog,.b]
abbrev VU:List Ty:=[.st .cluster,.st .config]
abbrev XC:List Ty:=[.i .i64,.ls (.st .entry)]
abbrev XD:List Ty:=[.st .server,.b]
abbrev XE:List Ty:=[.ls (.st .entry),.b]
abbrev Zv:List Ty:=[.st .cluster,.st .reply]
abbrev K1:List js:=[.ty (.st .cluster),.ty (.i .i64)]
abbrev L5:List js:=[.ty (.st .cluster)]
abbrev Ot:List js:=[.ty (.ls (.st .entry))]
abbrev Q6:List js:=[.ty (.st .cluster),.ty (.i .i64),.ty (.i .i64)]
abbrev Tj:List js:=[.ty (.i .i64)]
abbrev Tl:List js:=[.ty (.ls (.i .i64)),.ty (.ls (.i .i64))]
abbrev Tm:List js:=[.ty (.st .server),.ty (.i .i64)]
abbrev U9:List js:=[.ty (.ls (.i .i64))]
abbrev Va:List js:=[.ty (.st .config)]
abbrev Vb:List js:=[.ty (.st .masterLog)]
abbrev SA:List js:=[.ty (.st .server)]
abbrev Ug:List js:=[.ty (.ls (.i .i64)),.ty (.i .i64)]
abbrev Uh:List js:=[.ty (.st .op)]
abbrev VI:List js:=[.ty (.st .lease)]
abbrev VJ:List js:=[.ty (.st .masterLog),.ty (.i .i64)]
abbrev Xm:List js:=[.ty (.i .i64),.ty (.i .i64),.ty (.i .i64)]
abbrev Xn:List js:=[.ty (.ls (.st .place))]
abbrev Xo:List js:=[.ty (.ls (.i .i64)),.ty (.i .i64),.ty (.i .i64)]
abbrev Xp:List js:=[.ty (.ls (.st .entry)),.ty (.i .i64)]
abbrev YY:List js:=[.ty (.st .config),.ty (.st .config)]
abbrev YZ:List js:=[.ty (.st .config),.ty (.i .i64)]
abbrev Y0:List js:=[.ty (.ls (.st .entry)),.ty (.i .i64),.ty (.i .i64)]
abbrev Y1:List js:=[.ty (.st .machine),.ty (.i .i64)]
abbrev Y2:List js:=[.ty (.st .cluster),.ty (.i .i64),.ty (.st .op)]
abbrev Y3:List js:=[.ty (.st .lease),.ty (.i .i64)]
abbrev Y4:List js:=[.ty (.st .masterLog),.ty (.st .config)]
abbrev Y5:List js:=[.ty (.i .i64),.ty (.ls (.st .entry))]
abbrev Y6:List js:=[.ty (.ls (.st .entry)),.ty (.ls (.st .entry))]
abbrev Y7:List js:=[.ty (.st .server),.ty (.st .config),.ty (.i .i64),.ty (.ls (.st .entry))]
abbrev Y8:List js:=[.ty (.st .cluster),.ty (.st .event)]
abbrev Y9:List js:=[.ty (.ls (.i .i64)),.fc 207]
abbrev Za:List js:=[.ty (.i .i64),.ty (.i .i64)]
abbrev Zb:List js:=[.ty (.ls (.st .place)),.fc 209]
abbrev Zc:List js:=[.ty (.i .i64),.pr (.st .cluster),.pr (.st .config)]
abbrev Zd:List js:=[.ty (.ls (.st .entry)),.fc 201]
abbrev Ze:List js:=[.ty (.ls (.st .ack)),.ty (.ls (.st .entry))]
abbrev Lh:Type:=(Int×Unit×Unit×Unit×Int×Int×Int×Int×Int×Unit×Unit)
abbrev L8:Type:=(Int×List oU×List Int×List mt×Int×Int×Int×Int×Int×List sV×Unit)
abbrev Rb:Type:=(Unit×Int×Unit)
abbrev Rc:Type:=(Int×Int×Unit×Unit×Unit)
abbrev Vc:Type:=(Unit×Unit×Int×Unit)
abbrev XA:Type:=(Unit×Unit×Unit×Int×Unit)
abbrev XB:Type:=(Unit×Unit×Unit)
abbrev Z1:Type:=(List mt×Int×Unit)
abbrev Z2:Type:=(List Int×List Int×Unit×Int×Unit)
abbrev Z3:Type:=(List Int×List me×Unit)
abbrev Xx:Type:=(Unit×Int×Unit×Int×Unit)
abbrev Xy:Type:=(Int×Unit×Unit×Unit×Bool×Int×Unit)
abbrev Xz:Type:=(Unit×Unit×Unit×Unit×Unit×Unit×Int×Unit)
abbrev Zl:Type:=(Int×Unit×List Int×List mt×Int×Int×Int×Int×Int×List sV×Unit)
abbrev Zm:Type:=(List Int×Int×Unit)
abbrev Zn:Type:=(List Int×Int×Int×Unit)
abbrev Zo:Type:=(List pS×Int×Unit)
abbrev Zp:Type:=(List Int×Unit×Int×Unit)
abbrev Zq:Type:=(Bool×Bool×Int×Int×Int×Int×List Int×List Int×Int×List pS×Int×List pS×Unit)
abbrev Zr:Type:=(List pS×Unit×Int×Int×Unit)
abbrev Zs:Type:=(List Int×List Int×Int×Int×Unit)
abbrev Zt:Type:=(List pS×List pS×Int×Int×Unit)
abbrev Zu:Type:=(oQ×mt×Unit)
abbrev HQ:Nat×kW:=(1,.cl (.ptr 0 0))
abbrev KC:Nat×kW:=(1,.cl (.int .i64))
abbrev K3:Nat×kW:=(3,.cl (.int .i64))
abbrev Lf:Nat×kW:=(4,.cl (.int .i64))
abbrev LC:Nat×kW:=(5,.cl (.int .i64))
abbrev Mu:Nat×kW:=(2,.cl (.ptr 0 0))
abbrev Mv:Nat×kW:=(0,.cl (.ro (.i .i64)))
abbrev MT:Nat×kW:=(7,.cl (.int .i64))
abbrev Nl:Nat×kW:=(2,.cl (.dead))
abbrev NQ:Nat×kW:=(6,.cl (.int .i64))
abbrev Kl:Nat×kW:=(0,.cl (.ro (.st .entry)))
abbrev K2:Nat×kW:=(2,.cl (.bl))
abbrev L6:Nat×kW:=(2,.cl (.ptr 1 0))
abbrev L7:Nat×kW:=(5,.cl (.own 0 (.i .i64)))
abbrev MH:Nat×kW:=(4,.cl (.dead))
abbrev MI:Nat×kW:=(6,.cl (.ptr 1 0))
abbrev Nh:Nat×kW:=(3,.cl (.ptr 1 0))
abbrev Ni:Nat×kW:=(12,.cl (.int .i64))
abbrev Nj:Nat×kW:=(8,.cl (.int .i64))
abbrev Nk:Nat×kW:=(0,.cl (.own 0 (.i .i64)))
abbrev N2:Nat×kW:=(4,.cl (.bl))
abbrev N3:Nat×kW:=(4,.cl (.ptr 0 0))
abbrev O0:Nat×kW:=(1,.cl (.ro (.i .i64)))
abbrev O1:Nat×kW:=(2,.cl (.int .i64))
abbrev O2:Nat×kW:=(4,.cl (.ptr 2 0))
abbrev PO:Nat×kW:=(0,.cl (.pt 0 3))
abbrev PP:Nat×kW:=(0,.cl (.ro (.st .place)))
abbrev PQ:Nat×kW:=(5,.cl (.ptr 3 0))
abbrev Q7:Nat×kW:=(3,.cl (.ptr 0 0))
abbrev Q8:Nat×kW:=(10,.cl (.int .i64))
abbrev Q9:Nat×kW:=(7,.cl (.own 0 (.st .entry)))
abbrev Ra:Nat×kW:=(9,.cl (.own 1 (.i .i64)))
abbrev SB:Nat×kW:=(4,.cl (.ptr 1 0))
abbrev SC:Nat×kW:=(9,.cl (.bl))
abbrev SD:Nat×kW:=(3,.cl (.own 0 (.i .i64)))
abbrev SE:Nat×kW:=(11,.cl (.int .i64))
abbrev Ui:Nat×kW:=(3,.cl (.ptr 2 0))
abbrev Uj:Nat×kW:=(8,.cl (.bl))
abbrev Uk:Nat×kW:=(7,.cl (.bl))
abbrev VK:Nat×kW:=(6,.cl (.own 0 (.i .i64)))
abbrev VL:Nat×kW:=(8,.cl (.own 0 (.i .i64)))
abbrev VN:Nat×kW:=(1,.cl (.ro (.st .entry)))
abbrev VO:Nat×kW:=(6,.cl (.own 0 (.st .entry)))
abbrev VP:Nat×kW:=(3,.cl (.str))
abbrev VQ:Nat×kW:=(3,.cl (.own 1 (.i .i64)))
abbrev VS:Nat×kW:=(3,.cl (.own 1 (.st .entry)))
abbrev VT:Nat×kW:=(5,.cl (.own 0 (.st .ack)))
abbrev Xq:Nat×kW:=(6,.cl (.dead))
abbrev Xr:Nat×kW:=(7,.cl (.ptr 3 0))
abbrev Xt:Nat×kW:=(7,.cl (.own 0 (.i .i64)))
abbrev Xu:Nat×kW:=(9,.cl (.own 0 (.i .i64)))
abbrev Xv:Nat×kW:=(8,.cl (.ptr 1 0))
abbrev Xw:Nat×kW:=(13,.cl (.int .i64))
abbrev Zf:Nat×kW:=(3,.cl (.own 1 (.st .place)))
abbrev Zg:Nat×kW:=(5,.cl (.own 1 (.st .event)))
abbrev Zh:Nat×kW:=(11,.cl (.own 1 (.i .i64)))
abbrev Zi:Nat×kW:=(7,.cl (.own 0 (.st .reply)))
abbrev Zj:Nat×kW:=(5,.cl (.own 1 (.st .entry)))
abbrev Zk:Nat×kW:=(6,.cl (.own 2 (.st .ack)))
abbrev GG:List Ty:=[.i .i64]
abbrev Vh:List Ty:=[.st .entry,.i .i64,.st .server,.i .i64,.st .config,.st .place,.i .i64,.i .i64]
abbrev XJ:List Ty:=[.st .server,.i .i64,.st .config,.st .place]
abbrev Yv:List Ty:=[.st .config]
abbrev Yw:List Ty:=[.st .server]
abbrev Yx:List Ty:=[.i .i64,.st .session]
abbrev Yy:List Ty:=[.i .i64,.st .server,.i .i64,.st .config,.st .place]
abbrev Yz:List Ty:=[.i .i64,.i .i64]
abbrev YA:List Ty:=[.st .cur,.i .i64]
abbrev YB:List Ty:=[.st .cur,.st .entry]
abbrev XI:List Ty:=[.st .entry,.i .i64,.i .i64]
abbrev ZD:List Ty:=[.st .server,.i .i64,.st .place]
abbrev ZE:List Ty:=[.i .i64,.i .i64,.i .i64,.i .i64]
abbrev ZF:List Ty:=[.i .i64,.i .i64,.i .i64]
abbrev ZG:List Ty:=[.st .reply,.st .server,.i .i64,.st .config,.st .place]
abbrev ZH:List Ty:=[.st .cur,.st .entry,.st .ack]
abbrev I5:List Sh:=[.int .i64,.ro (.st .server),.ro (.i .i64),.ro (.st .config),.int .i64,.int .i64,.int .i64,.int .i64,.int .i64,.ro (.st .place)]
abbrev KD:List Sh:=[.int .i64,.em,.em,.em,.int .i64,.int .i64,.int .i64,.int .i64,.int .i64,.em]
abbrev To:List Sh:=[.int .i64,.own 2 (.st .server),.own 3 (.i .i64),.own 4 (.st .config),.int .i64,.int .i64,.int .i64,.int .i64,.int .i64,.own 5 (.st .place)]
abbrev Um:List Sh:=[.int .i64,.own 1 (.st .server),.own 2 (.i .i64),.own 3 (.st .config),.int .i64,.int .i64,.int .i64,.int .i64,.int .i64,.own 4 (.st .place)]
abbrev Vd:List Sh:=[.ro (.st .config),.int .i64]
abbrev Ve:List Sh:=[.ro (.i .i64),.ro (.st .session)]
abbrev Vf:List Sh:=[.int .i64,.own 0 (.st .server),.own 1 (.i .i64),.own 2 (.st .config),.int .i64,.int .i64,.int .i64,.int .i64,.int .i64,.own 3 (.st .place)]
abbrev Vg:List Sh:=[.int .i64,.int .i64,.own 6 (.i .i64),.own 7 (.i .i64)]
abbrev Wy:List Sh:=[.em,.int .i64]
abbrev XH:List Sh:=[.int .i64,.int .i64,.own 1 (.i .i64),.own 2 (.i .i64)]
abbrev VV:List Sh:=[.own 0 (.st .config),.int .i64]
abbrev VW:List Sh:=[.int .i64,.own 0 (.st .server),.ro (.i .i64),.ro (.st .config),.int .i64,.int .i64,.int .i64,.int .i64,.int .i64,.ro (.st .place)]
abbrev VX:List Sh:=[.bl,.int .i64]
abbrev VY:List Sh:=[.own 0 (.i .i64),.own 1 (.st .session)]
abbrev XF:List Sh:=[.int .i64,.int .i64,.bl,.int .i64]
abbrev XG:List Sh:=[.int .i64,.int .i64,.own 0 (.i .i64),.own 1 (.i .i64)]
abbrev Zw:List Sh:=[.int .i64,.own 0 (.st .server),.own 1 (.i .i64),.em,.int .i64,.int .i64,.int .i64,.int .i64,.int .i64,.own 2 (.st .place)]
abbrev Zx:List Sh:=[.int .i64,.int .i64,.int .i64,.int .i64,.int .i64,.int .i64]
abbrev Zy:List Sh:=[.int .i64,.int .i64,.em,.em]
abbrev Zz:List Sh:=[.int .i64,.int .i64,.own 2 (.i .i64),.own 3 (.i .i64)]
abbrev ZA:List Sh:=[.bl,.bl,.int .i64,.int .i64,.int .i64,.int .i64,.ro (.i .i64),.ro (.i .i64),.int .i64,.ro (.st .entry),.int .i64,.ro (.st .entry)]
abbrev ZB:List Sh:=[.own 1 (.st .config),.int .i64]
abbrev ZC:List Sh:=[.pro (.st .cluster),.pro (.st .config)]
def sb0:ByteArray:=⟨⟨[0,1,2,2,3,3,3,3,4,4,4,4,4,4,4,4,5,5,5,5,5,5,5,5,5,5,5,5,5,5,5,5,6,6,6,6,6,6,6,6,6,6,6,6,6,6,6,6,6,6,6,6,6,6,6,6,6,6,6,6,6,6,6,6,7,7,7,7,7,7,7,7,7,7,7,7,7,7,7,7,7,7,7,7,7,7,7,7,7,7,7,7,7,7,7,7,7,7,7,7,7,7,7,7,7,7,7,7,7,7,7,7,7,7,7,7,7,7,7,7,7,7,7,7,7,7,7,7,8,8,8,8,8,8,8,8,8,8,8,8,8,8,8,8,8,8,8,8,8,8,8,8,8,8,8,8,8,8,8,8,8,8,8,8,8,8,8,8,8,8,8,8,8,8,8,8,8,8,8,8,8,8,8,8,8,8,8,8,8,8,8,8,8,8,8,8,8,8,8,8,8,8,8,8,8,8,8,8,8,8,8,8,8,8,8,8,8,8,8,8,8,8,8,8,8,8,8,8,8,8,8,8,8,8,8,8,8,8,8,8,8,8,8,8,8,8,8,8,8,8,8,8,8,8,8,8]⟩⟩
theorem I6:Tryz.prog.follows .mixedOrders=true:=by kernel_rfl
abbrev FM[dp] :=@B7 _ _ B6 I6 _
abbrev C4[dp] :=@BU _ _ B6 I6 _
abbrev coM[dp] :=@BZ _ _ B6 I6 _
abbrev coI[dp] :=@BX _ _ B6 I6 _
abbrev coC[dp] :=@BV _ _ B6 I6 _
abbrev PX[dp] :=@B0 _ _ B6 I6 _
def WX(a0:Hd):Option (Bool×Unit):=some (decide (1048576< (a0.n:Int)),())
section
open Go.RowKit
theorem WK(x:Hd)(w:World):Calls Tryz.prog 7 #[.slice x.a x.n x.c] w λe w'=>e= .returned (.bool (decide (1048576< (x.n:Int))))/\Below w.heap.size w w':=by
 have mixed:Tryz.prog.follows .mixedOrders=true:=I6
 go_enter Tryz.func7,Tryz.ntmps7
 go_wp2
 go_ret
 exact⟨rfl,Below.refl _ _⟩
end
def aao[dp] :=BW (P:=Tryz.prog) 7 (by kernel_rfl) (Ak Tryz.func7 (by kernel_rfl) rfl) [.ty .h] [.b] rfl rfl (λx=>WX x.1) λx y h w=>by obtain rfl:=Option.some.inj h;exact WK x.1 w
def Qo[dp](a0:Hd):Option (List oS×Unit):=(Bv a0).map λc=>([c],())
section
open Go.RowKit
set_option maxHeartbeats 4000000 in
set_option maxRecDepth 100000 in
theorem Uy[dp](x:Hd)(c:oS)(hx:Bv x=some c)(w:World)(hB: ∀a v,dp.w.cell? a=some v->w.cell? a=some v):
  Calls Tryz.prog 56 #[.slice x.a x.n x.c] w λr w'=> ∃b cs e,r= .returned (.pointer (some ⟨b,0,none⟩))/\Below w.heap.size w w'/\w.heap.size<=b/\w'.heap[b]? =some (.cells cs e (0,0))/\cs.size=3/\i6 cs 0 c:=by
 have mixed:Tryz.prog.follows .mixedOrders=true:=I6;obtain⟨l,hl,rfl⟩:=ai.1 hx;obtain⟨hlen,hg⟩:=zy hl
 have hg2: ∀ (k:Nat) m,l[k]? =some m-> ∃ad,x.a=some ad/\w.cell? (ad.add k)=some (.int .u8 m):=λk m hk=>by obtain⟨ad,h1,h2⟩:=hg k m hk;exact⟨ad,h1,hB _ _ h2⟩
 clear hg hB hl hx;obtain⟨a,n,cp⟩:=x;simp only at hlen hg2 ⊢;obtain⟨h0,hh0⟩: ∃h0,h0=wrap64 (10101+(n:Int)):=⟨_,rfl⟩
 rw[<-hh0];obtain⟨hf,hhf⟩: ∃hf,hf=(l.take 4000).foldl BA h0:=⟨_,rfl⟩
 rw[<-hhf]
 go_enter Tryz.func56,Tryz.ntmps56
 go_wp2
 rw[<-hh0]
 go_loop [3,4] (λh i=> ∃k:Nat,k<=n/\k<=4000/\i= .int .i64 k/\h= .int .i64 ((l.take k).foldl BA h0)) (λ_ i=>n-(intOf i).toNat)
 case atStart=>exact⟨0,bL _,bL _,rfl,by rw[da,List.foldl_nil]⟩
 case round=>
  obtain⟨k,hk,hk4,rfl,rfl⟩:=hrel;clear hh0;by_cases h1:k<n
  ·by_cases h2:k<4000
   ·have hgk:l[k]? =some l[k] :=an (by omega);obtain⟨ad,rfl,hc⟩:=hg2 k _ hgk
    have hnext: (l.take (k+1)).foldl BA h0=BA ((l.take k).foldl BA h0) l[k] :=by rw[Cg,hgk,List.foldl_append,Option.toList_some,List.foldl_cons,List.foldl_nil]
    generalize l[k] =m at hc hnext hgk;clear hg2
    go_wp2
    refine⟨⟨k+1,h1,h2,by rw[Int.natCast_succ],by rw[hnext];rfl⟩,?_⟩;simp only[intOf];omega
   ·have hk0:l.take 4000=l.take k:=by rw[show k=4000 by omega]
    clear hg2
    go_wp2
    go_ret
    rw[hk0] at hhf;subst hhf;exact⟨_,rfl,(Below.refl _ w).alloc (au _) _,au _,_,⟨_,gM w _⟩,rfl,rfl,rfl,rfl⟩
  ·have hk0:l.take 4000=l.take k:=by rw[bS (by omega),bS (by omega)]
   clear hg2
   go_wp2
   go_ret
   rw[hk0] at hhf;subst hhf;exact⟨_,rfl,(Below.refl _ w).alloc (au _) _,au _,_,⟨_,gM w _⟩,rfl,rfl,rfl,rfl⟩
end
def VB[dp] :=BQ (P:=Tryz.prog) 56 (by kernel_rfl) (Ak Tryz.func56 (by kernel_rfl) rfl) Bv Uy
def LP[dp](a0:List oS):Option (List oS×Int×Unit):=Bu A8 a0
section
open Go.RowKit
set_option maxHeartbeats 4000000 in
set_option maxRecDepth 100000 in
theorem TB[dp](c:oS)(y:oS×Int)(hy:A8 c=some y)(w:World)(b O:Nat)(cs:Array Value)(e:TypeId)(hB: ∀a v,dp.w.cell? a=some v->w.cell? a=some v/\a.block≠b)(hb:w.heap[b]? =some (.cells cs e (0,0)))(hc:i6 cs O c):
   Calls Tryz.prog 170 #[.pointer (some ⟨b,O,none⟩)] w λr w'=>r= .returned (.int .i64 y.2)/\w'.os=w.os/\w'.tape=w.tape/\w'.output=w.output/\w'.heap.size=w.heap.size/\(∀k,k≠b->w'.heap[k]? =w.heap[k]?)/\ ∃cs',w'.heap[b]? =some (.cells cs' e (0,0))/\cs'.size=cs.size/\i6 cs' O y.1/\ ∀k,(k<O\/O+3<=k)->cs'[k]? =cs[k]? :=by
 have mixed:Tryz.prog.follows .mixedOrders=true:=I6;have h0:w.cell? ⟨b,O,none⟩=some (.slice c.b.a c.b.n c.b.c):=by simp[World.cell?,hb,hc.1]
 have h1:w.cell? ⟨b,O+1,none⟩=some (.int .i64 c.i):=by simp[World.cell?,hb,hc.2.1]
 have h2:w.cell? ⟨b,O+2,none⟩=some (.int .i64 c.h):=by simp[World.cell?,hb,hc.2.2]
 have hf1:w.frozen? ⟨b,O+1,none⟩=false:=by simp[World.frozen?,hb]
 have hf2:w.frozen? ⟨b,O+2,none⟩=false:=by simp[World.frozen?,hb]
 unfold A8 at hy;split at hy
 ·rename_i hi;split at hy
  ·rename_i hi0;obtain⟨m,hm,rfl⟩:=ai.1 hy;obtain⟨l,hl,hm⟩:=af.1 hm;obtain⟨_,hg⟩:=zy hl;obtain⟨ad,ha,hcell⟩:=hg _ _ hm;obtain⟨hc2,hne⟩:=hB _ _ hcell;rw[ju] at hne;clear hy hg hB hl;obtain⟨⟨a,n,cp⟩,i,h⟩:=c;simp only at hi hi0 ha h0 h1 h2 hc2 hm ⊢;subst ha;clear hm hcell;have hk: ∀v,(w.setCell ⟨b,O+2,none⟩ v).cell? (ad.add i.toNat)=some (.int .u8 m):=λv=>(World.cell?_setCell_other w _ _ v (λe=>hne (by rw[<-ju ad i.toNat,<-e]))).trans hc2
   go_enter Tryz.func170,Tryz.ntmps170
   go_wp2
   go_region
   go_wp2
   go_region
   go_wp2
   go_region
   go_wp2
   go_ret
   exact⟨rfl,rfl,rfl,rfl,A9 hb hc (.inl rfl)⟩
  ·cases hy
 ·rename_i hi;obtain rfl:=Option.some.inj hy;obtain⟨⟨a,n,cp⟩,i,h⟩:=c;simp only at hi h0 h1 h2 ⊢;clear hy hB
  go_enter Tryz.func170,Tryz.ntmps170
  go_wp2
  go_region
  go_wp2
  go_region
  go_wp2
  go_ret
  exact⟨rfl,rfl,rfl,rfl,A9 hb hc (.inr ⟨rfl,rfl⟩)⟩
end
def Xg[dp] :=BR (P:=Tryz.prog) 170 (by kernel_rfl) (Ak Tryz.func170 (by kernel_rfl) rfl) A8 TB
def CF[dp](a0:List oS)(a1:Int):Option ((List oS)×Int×Unit):=
 br (decide (a1<=0)) (some (a0,0,())) (br (decide (a1<=256)) ((LP a0).bind λy1=>iteP (y1.1.length=a0.length) (iteP (a1=0) none (some (y1.1,(Int.tmod y1.2.1 a1),()))) none) ((LP a0).bind λy2=>iteP (y2.1.length=a0.length) ((LP y2.1).bind λy3=>iteP (y3.1.length=y2.1.length) ((LP y3.1).bind λy4=>iteP (y4.1.length=y3.1.length) ((LP y4.1).bind λy5=>iteP (y5.1.length=y4.1.length) (iteP (a1=0) none (some (y5.1,(Int.tmod (aaV .i64 ((aaV .i64 ((aaV .i64 ((aaV .i64 (y2.2.1*16777216))+(aaV .i64 (y3.2.1*65536))))+(aaV .i64 (y4.2.1*256))))+y5.2.1)) a1),()))) none) none) none) none))
def DV[dp] :=PX 88 Tryz.f88 (.st .cur) Tj HS (λl x=>CF l x.1) [Xg] [] (by kernel_rfl) λl x=>by simp only[CF,tm,-eq_self];kernel_rfl
abbrev O7:LX:=⟨⟨[PO,Zf,Lf],[],[.st .cur,.st .place],1,22⟩,[(.ext 0,⟨[Zf],[],[.st .cur,.st .place],1,22⟩)],[],[0,3,4],[3]⟩
def Ks[dp](s:Vc×Unit×List oS×List sV×Unit):O7.R:=
 br (decide (s.1.2.2.1<5)) ((CF s.2.2.1 4).bind λy4=>iteP (y4.1.length=s.2.2.1.length) ((CF y4.1 4).bind λy5=>iteP (y5.1.length=y4.1.length) ((CF y5.1 4).bind λy6=>iteP (y6.1.length=y5.1.length) (iteP ((s.2.2.2.1++([(⟨y4.2.1,(aaV .i64 (1+y5.2.1)),y6.2.1⟩:sV)]:List sV)).length*24<=2 ^ 40) (some (.inl (((),(),(aaV .i64 (s.1.2.2.1+1)),()),(()),y6.1,(s.2.2.2.1++([(⟨y4.2.1,(aaV .i64 (1+y5.2.1)),y6.2.1⟩:sV)]:List sV)),()))) none) none) none) none) (some (.inr (((),()),(()),s.2.2)))
def Ti[dp] :=mh Ks
def Tz[dp] :=FM Tryz.f218 [0] O7 Ks [DV] [] (by kernel_rfl) λs=>by simp only[Ks,tm,-eq_self];kernel_rfl
def Jl[dp](a0:List oS):Option ((List oS)×(List sV)×Unit):=
 (Ti (((),(),0,()),(()),a0,([]:List sV),())).bind λe7=>some e7.2.2
def QT[dp] :=PX 218 Tryz.f218 (.st .cur) [] [.ls (.st .place)] (λl _=>Jl l) [] [Tz] (by kernel_rfl) λl x=>by simp only[Jl,tm];kernel_rfl
def CM(a0:Int)(a1:Int)(a2:Int):Option (Bool×Unit):=
 br (decide (a0≥a1)) (some ((decide (a0<=a2)),())) (some (false,()))
def Ds[dp] :=C4 90 Tryz.f90 Xm [.b] (λx=>CM x.1 x.2.1 x.2.2.1) [] [] (by kernel_rfl) λx=>by simp only[CM,tm];kernel_rfl
abbrev N6:LX:=⟨⟨[PP,K3],[],[],0,38⟩,[(.ret,⟨[PP,K2],[],[],0,38⟩),(.ext 0,⟨[PP,Nl],[],[],0,38⟩)],[],[0,3],[0,2]⟩
def FZ(s: (List sV×Int×Unit)×Unit×Unit):N6.R:=
 br (decide (s.1.2.1< (s.1.1.length:Int))) (iteP (0<=s.1.2.1) ((s.1.1[s.1.2.1.toNat]?).bind λx3=>(CM x3.rack 0 9).bind λy4=>br (!y4.1) (some (.inr (.inl ((s.1.1,false,()),(()),(()))))) (iteP (0<=s.1.2.1) ((s.1.1[s.1.2.1.toNat]?).bind λx5=>(CM x5.capacity 0 9).bind λy6=>br (!y6.1) (some (.inr (.inl ((s.1.1,false,()),(()),(()))))) (iteP (0<=s.1.2.1) ((s.1.1[s.1.2.1.toNat]?).bind λx7=>(CM x7.load 0 99).bind λy8=>br (!y8.1) (some (.inr (.inl ((s.1.1,false,()),(()),(()))))) (some (.inl ((s.1.1,(aaV .i64 (s.1.2.1+1)),()),(()),(()))))) none)) none)) none) (some (.inr (.inr ((s.1.1,(),()),(()),(())))))
def Ly:=mh FZ
def Sc[dp] :=FM Tryz.f160 [0] N6 FZ [Ds] [] (by kernel_rfl) λs=>by simp only[FZ,tm];kernel_rfl
def Di(a0:List sV):Option (Bool×Unit):=
 (Ly ((a0,0,()),(()),(()))).bind λe9=>Sum.elim (λe9_0=>some e9_0.1.2) (λe9_1=>some (((e9_1.1.1.length:Int)==5),())) e9
def J2[dp] :=C4 160 Tryz.f160 Xn [.b] (λx=>Di x.1) [] [Sc] (by kernel_rfl) λx=>by simp only[Di,tm];kernel_rfl
def Ik(a0:Int):Option (oU×Unit):=
 (CM a0 1 2).bind λy1=>br (!y1.1) (some ((⟨true,true,1,0,(⟨0,0,([]:List Int),([]:List Int)⟩:mt),0,([]:List pS),0,([]:List pS)⟩:oU),())) (some ((⟨true,true,a0,0,(⟨0,0,([]:List Int),([]:List Int)⟩:mt),0,([]:List pS),0,([]:List pS)⟩:oU),()))
def PJ[dp] :=C4 236 Tryz.f236 Tj Yq (λx=>Ik x.1) [Ds] [] (by kernel_rfl) λx=>by simp only[Ik,tm];kernel_rfl
abbrev Nt:LX:=⟨⟨[Mu,Nh,Lf],[KD,Zw],ZD,0,25⟩,[(.ext 0,⟨[Mu,Nh],[KD,Zw],ZD,0,25⟩)],[.b 1 1 (.st .server)],[2,3,4],[2,3]⟩
def Iw(s:Vc×(Lh×Lh×Unit)×List oU×List Int×List sV×Unit):Nt.R:=
 br (decide (s.1.2.2.1<5)) ((Ik 1).bind λy34=>iteP ((s.2.2.1++([y34.1]:List oU)).length*152<=2 ^ 40) (some (.inl (((),(),(aaV .i64 (s.1.2.2.1+1)),()),s.2.1,(s.2.2.1++([y34.1]:List oU)),s.2.2.2))) none) (some (.inr (((),(),()),s.2)))
def Q1:=mh Iw
def Ru[dp] :=FM Tryz.f217 [0] Nt Iw [PJ] [] (by kernel_rfl) λs=>by simp only[Iw,tm];kernel_rfl
def IP(a0:List sV):Option (oQ×Unit):=
 (Di a0).bind λy1=>br (!y1.1) (some ((⟨0,([]:List oU),([]:List Int),(⟨([]:List mt),0⟩:jr),0,(⟨0,0,0⟩:sS),([]:List sV)⟩:oQ),())) (iteP (0<=(5:Int)/\(5:Int)=5/\5*((8:Nat):Int)<=2 ^ 40) (iteP ((([]:List sV)++a0).length*24<=2 ^ 40) ((Q1 (((),(),0,()),((0,(),(),(),0,0,0,0,0,(),()),(0,(),(),(),0,3,0,0,0,(),()),()),([]:List oU),(List.replicate (5:Int).toNat (0:Int)),(([]:List sV)++a0),())).bind λe35=>some ((⟨e35.2.1.2.1.1,e35.2.2.1,e35.2.2.2.1,(⟨([]:List mt),e35.2.1.2.1.2.2.2.2.1⟩:jr),e35.2.1.2.1.2.2.2.2.2.1,(⟨e35.2.1.2.1.2.2.2.2.2.2.1,e35.2.1.2.1.2.2.2.2.2.2.2.1,e35.2.1.2.1.2.2.2.2.2.2.2.2.1⟩:sS),e35.2.2.2.2.1⟩:oQ),())) none) none)
def S5[dp] :=C4 217 Tryz.f217 Xn Ul (λx=>IP x.1) [J2] [Ru] (by kernel_rfl) λx=>by simp only[IP,tm,-eq_self];kernel_rfl
def DN[dp](a0:List oS)(a1:Int):Option ((List oS)×Bool×Unit):=
 (CF a0 a1).bind λy1=>iteP (y1.1.length=a0.length) (some (y1.1,(y1.2.1==0),())) none
def FU[dp] :=PX 84 Tryz.f84 (.st .cur) Tj [.b] (λl x=>DN l x.1) [DV] [] (by kernel_rfl) λl x=>by simp only[DN,tm,-eq_self];kernel_rfl
def CS[dp](a0:List oS)(a1:List Int):Option ((List oS)×Int×Unit):=
 (CF a0 (a1.length:Int)).bind λy1=>iteP (y1.1.length=a0.length) (iteP (0<=y1.2.1) ((a1[y1.2.1.toNat]?).bind λx2=>some (y1.1,x2,())) none) none
def D0[dp] :=PX 86 Tryz.f86 (.st .cur) U9 HS (λl x=>CS l x.1) [DV] [] (by kernel_rfl) λl x=>by simp only[CS,tm,-eq_self];kernel_rfl
def Lt[dp](a0:List oS):Option ((List oS)×Op×Unit):=
 (CF a0 3).bind λy1=>iteP (y1.1.length=a0.length) ((CF y1.1 5).bind λy2=>iteP (y2.1.length=y1.1.length) ((CF y2.1 3).bind λy3=>iteP (y3.1.length=y2.1.length) ((CF y3.1 10).bind λy4=>iteP (y4.1.length=y3.1.length) ((DN y4.1 3).bind λy5=>iteP (y5.1.length=y4.1.length) (br y5.2.1 ((CS y5.1 ([0,0,1,5,9]:List Int)).bind λy6=>iteP (y6.1.length=y5.1.length) (some (y6.1,(⟨y1.2.1,(aaV .i64 (1+y2.2.1)),2,y3.2.1,y6.2.1,y4.2.1⟩:Op),())) none) (some (y5.1,(⟨y1.2.1,(aaV .i64 (1+y2.2.1)),1,y3.2.1,0,y4.2.1⟩:Op),()))) none) none) none) none) none
def Td[dp] :=PX 169 Tryz.f169 (.st .cur) [] [.st .op] (λl _=>Lt l) [DV,FU,D0] [] (by kernel_rfl) λl x=>by simp only[Lt,tm,-eq_self];kernel_rfl
def KS[dp](a0:List oS):Option ((List oS)×u7×Unit):=
 (CF a0 5).bind λy1=>iteP (y1.1.length=a0.length) ((CF y1.1 24).bind λy2=>iteP (y2.1.length=y1.1.length) (br (y2.2.1==0) ((CF y2.1 20).bind λy3=>iteP (y3.1.length=y2.1.length) (some (y3.1,(⟨3,y1.2.1,0,(aaV .i64 (1+y3.2.1)),(⟨0,0,0,0,0,0⟩:Op)⟩:u7),())) none) (br (y2.2.1==1) ((CF y2.1 2).bind λy4=>iteP (y4.1.length=y2.1.length) ((CF y4.1 3).bind λy5=>iteP (y5.1.length=y4.1.length) (some (y5.1,(⟨4,0,y4.2.1,(aaV .i64 (1+y5.2.1)),(⟨0,0,0,0,0,0⟩:Op)⟩:u7),())) none) none) (br (y2.2.1==2) (some (y2.1,(⟨5,0,0,0,(⟨0,0,0,0,0,0⟩:Op)⟩:u7),())) (br (y2.2.1==3) (some (y2.1,(⟨6,y1.2.1,0,0,(⟨0,0,0,0,0,0⟩:Op)⟩:u7),())) (let j23 (p6:Bool):Option ((List oS)×u7×Unit):=br p6 (some (y2.1,(⟨7,y1.2.1,0,0,(⟨0,0,0,0,0,0⟩:Op)⟩:u7),())) (br (y2.2.1==6) ((DN y2.1 3).bind λy7=>iteP (y7.1.length=y2.1.length) (br y7.2.1 (some (y7.1,(⟨8,y1.2.1,0,0,(⟨0,0,0,0,0,0⟩:Op)⟩:u7),())) ((Lt y7.1).bind λy26=>iteP (y26.1.length=y7.1.length) (some (y26.1,(⟨1,y1.2.1,0,0,y26.2.1⟩:u7),())) none)) none) (br (y2.2.1==7) ((CS y2.1 ([0,0,1]:List Int)).bind λy8=>iteP (y8.1.length=y2.1.length) (some (y8.1,(⟨9,y1.2.1,0,y8.2.1,(⟨0,0,0,0,0,0⟩:Op)⟩:u7),())) none) (br (y2.2.1==8) ((CF y2.1 3).bind λy9=>iteP (y9.1.length=y2.1.length) (some (y9.1,(⟨10,0,0,(aaV .i64 (1+y9.2.1)),(⟨0,0,0,0,0,0⟩:Op)⟩:u7),())) none) (let j22 (p10:Bool):Option ((List oS)×u7×Unit):=br p10 ((CF y2.1 12).bind λy11=>iteP (y11.1.length=y2.1.length) (some (y11.1,(⟨11,0,0,y11.2.1,(⟨0,0,0,0,0,0⟩:Op)⟩:u7),())) none) (br (y2.2.1==11) ((CF y2.1 5).bind λy12=>iteP (y12.1.length=y2.1.length) ((CF y12.1 4).bind λy13=>iteP (y13.1.length=y12.1.length) (some (y13.1,(⟨12,y1.2.1,y12.2.1,(aaV .i64 (1+y13.2.1)),(⟨0,0,0,0,0,0⟩:Op)⟩:u7),())) none) none) (br (y2.2.1==12) (some (y2.1,(⟨13,y1.2.1,0,0,(⟨0,0,0,0,0,0⟩:Op)⟩:u7),())) (br (y2.2.1==13) (some (y2.1,(⟨14,y1.2.1,0,0,(⟨0,0,0,0,0,0⟩:Op)⟩:u7),())) (br (y2.2.1==14) (some (y2.1,(⟨15,y1.2.1,0,0,(⟨0,0,0,0,0,0⟩:Op)⟩:u7),())) (let j21 (p14:Bool):Option ((List oS)×u7×Unit):=br p14 ((CF y2.1 3).bind λy15=>iteP (y15.1.length=y2.1.length) ((CF y15.1 20).bind λy16=>iteP (y16.1.length=y15.1.length) (some (y16.1,(⟨16,0,(aaV .i64 (1+y15.2.1)),(aaV .i64 (1+y16.2.1)),(⟨0,0,0,0,0,0⟩:Op)⟩:u7),())) none) none) (br (y2.2.1==17) ((CF y2.1 3).bind λy19=>iteP (y19.1.length=y2.1.length) (some (y19.1,(⟨2,y1.2.1,0,y19.2.1,(⟨0,0,0,0,0,0⟩:Op)⟩:u7),())) none) (br (y2.2.1==18) ((CF y2.1 3).bind λy20=>iteP (y20.1.length=y2.1.length) (some (y20.1,(⟨2,y1.2.1,0,y20.2.1,(⟨0,0,0,0,0,0⟩:Op)⟩:u7),())) none) ((Lt y2.1).bind λy27=>iteP (y27.1.length=y2.1.length) (some (y27.1,(⟨1,y1.2.1,0,0,y27.2.1⟩:u7),())) none)));br (y2.2.1==15) (j21 true) (j21 (y2.2.1==16)))))));br (y2.2.1==9) (j22 true) (j22 (y2.2.1==10))))));br (y2.2.1==4) (j23 true) (j23 (y2.2.1==5))))))) none) none
def U0[dp] :=PX 237 Tryz.f237 (.st .cur) [] [.st .event] (λl _=>KS l) [DV,FU,D0,Td] [] (by kernel_rfl) λl x=>by simp only[KS,tm,-eq_self];kernel_rfl
abbrev Oc:LX:=⟨⟨[PO,Zg,NQ],[],[.st .cur,.st .event],1,48⟩,[(.ext 0,⟨[Zg],[],[.st .cur,.st .event],1,48⟩)],[],[0,5,6],[5]⟩
def HC[dp](s:Vc×Unit×List oS×List u7×Unit):Oc.R:=
 br (decide (s.1.2.2.1>0)) ((KS s.2.2.1).bind λy21=>iteP (y21.1.length=s.2.2.1.length) (br (y21.2.1.kind==1) ((DN y21.1 3).bind λy22=>iteP (y22.1.length=y21.1.length) (br (!y22.2.1) ((CS y22.1 ([0,0,1]:List Int)).bind λy23=>iteP (y23.1.length=y22.1.length) (iteP ((s.2.2.2.1++([(⟨y21.2.1.kind,y23.2.1,y21.2.1.other,y21.2.1.n,y21.2.1.op⟩:u7)]:List u7)).length*80<=2 ^ 40) (some (.inl (((),(),(aaV .i64 (s.1.2.2.1-1)),()),(()),y23.1,(s.2.2.2.1++([(⟨y21.2.1.kind,y23.2.1,y21.2.1.other,y21.2.1.n,y21.2.1.op⟩:u7)]:List u7)),()))) none) none) (iteP ((s.2.2.2.1++([y21.2.1]:List u7)).length*80<=2 ^ 40) (some (.inl (((),(),(aaV .i64 (s.1.2.2.1-1)),()),(()),y22.1,(s.2.2.2.1++([y21.2.1]:List u7)),()))) none)) none) (iteP ((s.2.2.2.1++([y21.2.1]:List u7)).length*80<=2 ^ 40) (some (.inl (((),(),(aaV .i64 (s.1.2.2.1-1)),()),(()),y21.1,(s.2.2.2.1++([y21.2.1]:List u7)),()))) none)) none) (some (.inr (((),()),(()),s.2.2)))
def JN[dp] :=mh HC
def So[dp] :=FM Tryz.f219 [0] Oc HC [FU,U0,D0] [] (by kernel_rfl) λs=>by simp only[HC,tm,-eq_self];kernel_rfl
def J0[dp](a0:List oS)(a1:Int):Option ((List oS)×(List u7)×Unit):=
 (CF a0 3).bind λy1=>iteP (y1.1.length=a0.length) ((CF y1.1 20).bind λy2=>iteP (y2.1.length=y1.1.length) ((DN y2.1 2).bind λy3=>iteP (y3.1.length=y2.1.length) (br y3.2.1 ((CF y3.1 (aaV .i64 (a1+1))).bind λy17=>iteP (y17.1.length=y3.1.length) ((JN (((),(),y17.2.1,()),(()),y17.1,([(⟨4,0,1,2,(⟨0,0,0,0,0,0⟩:Op)⟩:u7),(⟨5,0,0,0,(⟨0,0,0,0,0,0⟩:Op)⟩:u7)]:List u7),())).bind λe28=>some e28.2.2) none) ((CF y3.1 (aaV .i64 (a1+1))).bind λy29=>iteP (y29.1.length=y3.1.length) ((JN (((),(),y29.2.1,()),(()),y29.1,([(⟨16,0,(aaV .i64 (1+y1.2.1)),(aaV .i64 (1+y2.2.1)),(⟨0,0,0,0,0,0⟩:Op)⟩:u7)]:List u7),())).bind λe40=>some e40.2.2) none)) none) none) none
def Ub[dp] :=PX 219 Tryz.f219 (.st .cur) Tj [.ls (.st .event)] (λl x=>J0 l x.1) [DV,FU] [So] (by kernel_rfl) λl x=>by simp only[J0,tm,-eq_self];kernel_rfl
def Fx(a0:mt):Option (mt×Unit):=
 iteP ((([]:List Int)++a0.replicas).length*8<=2 ^ 40) (iteP ((([]:List Int)++a0.witnesses).length*8<=2 ^ 40) (some ((⟨a0.epoch,a0.primary,(([]:List Int)++a0.replicas),(([]:List Int)++a0.witnesses)⟩:mt),())) none) none
def Nc[dp] :=C4 149 Tryz.f149 Va Yr (λx=>Fx x.1) [] [] (by kernel_rfl) λx=>by simp only[Fx,tm];kernel_rfl
def DP(a0:List pS):Option ((List pS)×Unit):=
 iteP ((([]:List pS)++a0).length*56<=2 ^ 40) (some ((([]:List pS)++a0),())) none
def He[dp] :=C4 87 Tryz.f87 Ot Tn (λx=>DP x.1) [] [] (by kernel_rfl) λx=>by simp only[DP,tm];kernel_rfl
def FK(a0:oU):Option (oU×Unit):=
 (Fx a0.config).bind λy1=>(DP a0.log).bind λy2=>(DP a0.learned).bind λy3=>some ((⟨a0.up,a0.intact,a0.version,a0.epoch,y1.1,a0.first,y2.1,a0.commit,y3.1⟩:oU),())
def Pn[dp] :=C4 142 Tryz.f142 SA Yq (λx=>FK x.1) [Nc,He] [] (by kernel_rfl) λx=>by simp only[FK,tm];kernel_rfl
abbrev PS:LX:=⟨⟨[HQ,L6,Ui,Lf],[Vd,Wy,VV],Yv,0,29⟩,[(.ext 0,⟨[Mu,Nh],[Wy,VV],Yv,0,29⟩)],[.b 2 0 (.st .config)],[1,2,3,4],[2,3]⟩
def Ig(s:XA×(Z1×Rb×Rb×Unit)×List mt×Unit):PS.R:=
 br (decide (s.1.2.2.2.1< (s.2.1.1.1.length:Int))) (iteP (0<=s.1.2.2.2.1) ((s.2.1.1.1[s.1.2.2.2.1.toNat]?).bind λx14=>(Fx x14).bind λy15=>iteP ((s.2.2.1++([y15.1]:List mt)).length*64<=2 ^ 40) (some (.inl (((),(),(),(aaV .i64 (s.1.2.2.2.1+1)),()),s.2.1,(s.2.2.1++([y15.1]:List mt)),()))) none) none) (some (.inr (((),(),()),s.2.1.2,s.2.2)))
def PM:=mh Ig
def Ur[dp] :=FM Tryz.f143 [0] PS Ig [Nc] [] (by kernel_rfl) λs=>by simp only[Ig,tm];kernel_rfl
def Jk(a0:jr):Option (jr×Unit):=
 (PM (((),(),(),0,()),((a0.configs,a0.activated,()),((),0,()),((),a0.activated,()),()),([]:List mt),())).bind λe16=>some ((⟨e16.2.2.1,e16.2.1.2.1.2.1⟩:jr),())
def Pm[dp] :=C4 143 Tryz.f143 Vb Yt (λx=>Jk x.1) [] [Ur] (by kernel_rfl) λx=>by simp only[Jk,tm];kernel_rfl
abbrev PT:LX:=⟨⟨[HQ,L6,Ui,Lf],[I5,KD,VW],Yw,0,42⟩,[(.ext 0,⟨[HQ,L6,Ui],[I5,KD,VW],Yw,0,42⟩)],[.b 2 1 (.st .server)],[1,2,3,4],[1,2,3]⟩
def Ih(s:XA×(L8×Lh×Zl×Unit)×List oU×Unit):PT.R:=
 br (decide (s.1.2.2.2.1< (s.2.1.1.2.1.length:Int))) (iteP (0<=s.1.2.2.2.1) ((s.2.1.1.2.1[s.1.2.2.2.1.toNat]?).bind λx56=>(FK x56).bind λy57=>iteP ((s.2.2.1++([y57.1]:List oU)).length*152<=2 ^ 40) (some (.inl (((),(),(),(aaV .i64 (s.1.2.2.2.1+1)),()),s.2.1,(s.2.2.1++([y57.1]:List oU)),()))) none) none) (some (.inr (((),(),(),()),s.2)))
def PN:=mh Ih
def Us[dp] :=FM Tryz.f65 [0] PT Ih [Pn] [] (by kernel_rfl) λs=>by simp only[Ih,tm];kernel_rfl
def C7(a0:oQ):Option (oQ×Unit):=
 (PN (((),(),(),0,()),((a0.now,a0.servers,a0.sides,a0.master.configs,a0.master.activated,a0.masterUp,a0.lease.epoch,a0.lease.holder,a0.lease.ends,a0.places,()),(0,(),(),(),0,0,0,0,0,(),()),(a0.now,(),a0.sides,a0.master.configs,a0.master.activated,a0.masterUp,a0.lease.epoch,a0.lease.holder,a0.lease.ends,a0.places,()),()),([]:List oU),())).bind λe58=>iteP ((([]:List Int)++e58.2.1.1.2.2.1).length*8<=2 ^ 40) ((Jk (⟨e58.2.1.1.2.2.2.1,e58.2.1.1.2.2.2.2.1⟩:jr)).bind λy59=>iteP ((([]:List sV)++e58.2.1.1.2.2.2.2.2.2.2.2.2.1).length*24<=2 ^ 40) (some ((⟨e58.2.1.2.2.1.1,e58.2.2.1,(([]:List Int)++e58.2.1.1.2.2.1),y59.1,e58.2.1.2.2.1.2.2.2.2.2.1,(⟨e58.2.1.2.2.1.2.2.2.2.2.2.1,e58.2.1.2.2.1.2.2.2.2.2.2.2.1,e58.2.1.2.2.1.2.2.2.2.2.2.2.2.1⟩:sS),(([]:List sV)++e58.2.1.1.2.2.2.2.2.2.2.2.2.1)⟩:oQ),())) none) none
def DF[dp] :=C4 65 Tryz.f65 L5 Ul (λx=>C7 x.1) [Pm] [Us] (by kernel_rfl) λx=>by simp only[C7,tm];kernel_rfl
abbrev O4:LX:=⟨⟨[Mv,K3],[],[],0,19⟩,[(.ret,⟨[Mv,K2],[],[],0,19⟩),(.ext 0,⟨[Mv,Nl],[],[],0,19⟩)],[],[0,3],[0,2]⟩
def Hm(s:Zm×Unit×Unit):O4.R:=
 br (decide (s.1.2.1< (s.1.1.length:Int))) (iteP (0<=s.1.2.1) ((s.1.1[s.1.2.1.toNat]?).bind λx3=>(CM x3 0 3).bind λy4=>br (!y4.1) (some (.inr (.inl ((s.1.1,false,()),(()),(()))))) (some (.inl ((s.1.1,(aaV .i64 (s.1.2.1+1)),()),(()),(()))))) none) (some (.inr (.inr ((s.1.1,(),()),(()),(())))))
def Mt:=mh Hm
def Tv[dp] :=FM Tryz.f159 [0] O4 Hm [Ds] [] (by kernel_rfl) λs=>by simp only[Hm,tm];kernel_rfl
def EP(a0:List Int):Option (Bool×Unit):=
 (Mt ((a0,0,()),(()),(()))).bind λe5=>Sum.elim (λe5_0=>some e5_0.1.2) (λe5_1=>some (((e5_1.1.1.length:Int)==5),())) e5
def Mr[dp] :=C4 159 Tryz.f159 U9 [.b] (λx=>EP x.1) [] [Tv] (by kernel_rfl) λx=>by simp only[EP,tm];kernel_rfl
abbrev Np:LX:=⟨⟨[Mv,K3],[],[],0,32⟩,[(.ret,⟨[K2],[],[],0,32⟩),(.ext 0,⟨[Nl],[],[],0,32⟩)],[],[0,3],[2]⟩
def Et(s:Zm×Unit×Unit):Np.R:=
 br (decide (s.1.2.1< (s.1.1.length:Int))) (iteP (0<=s.1.2.1) ((s.1.1[s.1.2.1.toNat]?).bind λx3=>(CM x3 0 4).bind λy4=>br (!y4.1) (some (.inr (.inl ((false,()),(()),(()))))) (br (decide (s.1.2.1>0)) (iteP (0<=(aaV .i64 (s.1.2.1-1))) ((s.1.1[(aaV .i64 (s.1.2.1-1)).toNat]?).bind λx5=>iteP (0<=s.1.2.1) ((s.1.1[s.1.2.1.toNat]?).bind λx6=>br (decide (x5≥x6)) (some (.inr (.inl ((false,()),(()),(()))))) (some (.inl ((s.1.1,(aaV .i64 (s.1.2.1+1)),()),(()),(()))))) none) none) (some (.inl ((s.1.1,(aaV .i64 (s.1.2.1+1)),()),(()),(())))))) none) (some (.inr (.inr (((),()),(()),(())))))
def I4:=mh Et
def Rq[dp] :=FM Tryz.f205 [0] Np Et [Ds] [] (by kernel_rfl) λs=>by simp only[Et,tm];kernel_rfl
def D6(a0:List Int):Option (Bool×Unit):=
 (I4 ((a0,0,()),(()),(()))).bind λe7=>Sum.elim (λe7_0=>some e7_0.1) (λ_=>some (true,())) e7
def Ky[dp] :=C4 205 Tryz.f205 U9 [.b] (λx=>D6 x.1) [] [Rq] (by kernel_rfl) λx=>by simp only[D6,tm];kernel_rfl
abbrev N7:LX:=⟨⟨[Mv,KC,LC],[],[],0,18⟩,[(.ret,⟨[N2],[],[],0,18⟩),(.ext 0,⟨[MH],[],[],0,18⟩)],[],[0,1,5],[4]⟩
def GI(s:Zn×Unit×Unit):N7.R:=
 br (decide (s.1.2.2.1< (s.1.1.length:Int))) (iteP (0<=s.1.2.2.1) ((s.1.1[s.1.2.2.1.toNat]?).bind λx4=>br (x4==s.1.2.1) (some (.inr (.inl ((true,()),(()),(()))))) (some (.inl ((s.1.1,s.1.2.1,(aaV .i64 (s.1.2.2.1+1)),()),(()),(()))))) none) (some (.inr (.inr (((),()),(()),(())))))
def Lz:=mh GI
def Sf[dp] :=FM Tryz.f127 [0] N7 GI [] [] (by kernel_rfl) λs=>by simp only[GI,tm];kernel_rfl
def Dj(a0:List Int)(a1:Int):Option (Bool×Unit):=
 (Lz ((a0,a1,0,()),(()),(()))).bind λe5=>Sum.elim (λe5_0=>some e5_0.1) (λ_=>some (false,())) e5
def Fi[dp] :=C4 127 Tryz.f127 Ug [.b] (λx=>Dj x.1 x.2.1) [] [Sf] (by kernel_rfl) λx=>by simp only[Dj,tm];kernel_rfl
abbrev SH:LX:=⟨⟨[Mv,KC,LC],[],[],0,47⟩,[(.ext 0,⟨[Mv,KC,LC],[],[],0,47⟩)],[],[0,1,5],[0,1,5]⟩
def Ho(s:Zn×Unit×Unit):SH.R:=
 br (decide (s.1.2.2.1< (s.1.1.length:Int))) (iteP (0<=s.1.2.2.1) ((s.1.1[s.1.2.2.1.toNat]?).bind λx4=>br (decide (x4<s.1.2.1)) (some (.inl ((s.1.1,s.1.2.1,(aaV .i64 (s.1.2.2.1+1)),()),(()),(())))) (some (.inr (s.1,(()),(()))))) none) (some (.inr (s.1,(()),(()))))
def Pq:=mh Ho
def WE[dp] :=FM Tryz.f211 [0] SH Ho [] [] (by kernel_rfl) λs=>by simp only[Ho,tm];kernel_rfl
def F7(a0:List Int)(a1:Int):Option ((List Int)×Unit):=
 (Pq ((a0,a1,0,()),(()),(()))).bind λe5=>let j7:Option ((List Int)×Unit):=iteP (0<=(0:Int)/\(0:Int)<=e5.1.2.2.1/\e5.1.2.2.1<=(e5.1.1.length:Int)) (iteP ((([]:List Int)++((e5.1.1.drop (0:Int).toNat).take (e5.1.2.2.1.toNat-(0:Int).toNat))).length*8<=2 ^ 40) (iteP (((([]:List Int)++((e5.1.1.drop (0:Int).toNat).take (e5.1.2.2.1.toNat-(0:Int).toNat)))++([e5.1.2.1]:List Int)).length*8<=2 ^ 40) (iteP (0<=e5.1.2.2.1/\e5.1.2.2.1<=(e5.1.1.length:Int)/\(e5.1.1.length:Int)<=(e5.1.1.length:Int)) (iteP ((((([]:List Int)++((e5.1.1.drop (0:Int).toNat).take (e5.1.2.2.1.toNat-(0:Int).toNat)))++([e5.1.2.1]:List Int))++((e5.1.1.drop e5.1.2.2.1.toNat).take ((e5.1.1.length:Int).toNat-e5.1.2.2.1.toNat))).length*8<=2 ^ 40) (some ((((([]:List Int)++((e5.1.1.drop (0:Int).toNat).take (e5.1.2.2.1.toNat-(0:Int).toNat)))++([e5.1.2.1]:List Int))++((e5.1.1.drop e5.1.2.2.1.toNat).take ((e5.1.1.length:Int).toNat-e5.1.2.2.1.toNat))),())) none) none) none) none) none;br (decide (e5.1.2.2.1< (e5.1.1.length:Int))) (iteP (0<=e5.1.2.2.1) ((e5.1.1[e5.1.2.2.1.toNat]?).bind λx6=>br (x6==e5.1.2.1) (iteP ((([]:List Int)++e5.1.1).length*8<=2 ^ 40) (some ((([]:List Int)++e5.1.1),())) none) (j7)) none) (j7)
def Ms[dp] :=C4 211 Tryz.f211 Ug Jt (λx=>F7 x.1 x.2.1) [] [WE] (by kernel_rfl) λx=>by simp only[F7,tm];kernel_rfl
abbrev Lr:LX:=⟨⟨[Mv,O0,L7,NQ],[],GG,0,27⟩,[(.ext 0,⟨[L7],[],GG,0,27⟩)],[],[0,1,5,6],[5]⟩
def EZ(s:Z2×Unit×List Int×Unit):Lr.R:=
 br (decide (s.1.2.2.2.1< (s.1.1.length:Int))) (iteP (0<=s.1.2.2.2.1) ((s.1.1[s.1.2.2.2.1.toNat]?).bind λx5=>(Dj s.1.2.1 x5).bind λy6=>br y6.1 (iteP (0<=s.1.2.2.2.1) ((s.1.1[s.1.2.2.2.1.toNat]?).bind λx7=>(F7 s.2.2.1 x7).bind λy8=>some (.inl ((s.1.1,s.1.2.1,(),(aaV .i64 (s.1.2.2.2.1+1)),()),(()),y8.1,()))) none) (some (.inl ((s.1.1,s.1.2.1,(),(aaV .i64 (s.1.2.2.2.1+1)),()),(()),s.2.2)))) none) (some (.inr (((),()),(()),s.2.2)))
def Lp:=mh EZ
def Pa[dp] :=FM Tryz.f164 [0] Lr EZ [Fi,Ms] [] (by kernel_rfl) λs=>by simp only[EZ,tm];kernel_rfl
def EF(a0:List Int)(a1:List Int):Option ((List Int)×Unit):=
 (Lp ((a0,a1,(),0,()),(()),([]:List Int),())).bind λe10=>some e10.2.2
def J9[dp] :=C4 164 Tryz.f164 Tl Jt (λx=>EF x.1 x.2.1) [] [Pa] (by kernel_rfl) λx=>by simp only[EF,tm];kernel_rfl
def CE(a0:mt):Option (Bool×Unit):=
 (CM a0.epoch 1 20).bind λy1=>br y1.1 ((D6 a0.replicas).bind λy2=>br y2.1 ((D6 a0.witnesses).bind λy3=>br y3.1 ((Dj a0.replicas a0.primary).bind λy4=>br y4.1 ((EF a0.replicas a0.witnesses).bind λy5=>some (((y5.1.length:Int)==0),())) (some (false,()))) (some (false,()))) (some (false,()))) (some (false,()))
def H4[dp] :=C4 148 Tryz.f148 Va [.b] (λx=>CE x.1) [Ds,Ky,Fi,J9] [] (by kernel_rfl) λx=>by simp only[CE,tm];kernel_rfl
abbrev MO:LX:=⟨⟨[HQ,K3],[Vd],[],0,35⟩,[(.ret,⟨[HQ,K2],[Vd],[],0,35⟩),(.ext 0,⟨[HQ,Nl],[Vd],[],0,35⟩)],[],[1,3],[1,2]⟩
def Dd(s:Rb×(Z1×Unit)×Unit):MO.R:=
 br (decide (s.1.2.1< (s.2.1.1.1.length:Int))) (iteP (0<=s.1.2.1) ((s.2.1.1.1[s.1.2.1.toNat]?).bind λx4=>(CE x4).bind λy5=>br (!y5.1) (some (.inr (.inl (((),false,()),s.2.1,(()))))) (iteP (0<=s.1.2.1) ((s.2.1.1.1[s.1.2.1.toNat]?).bind λx6=>br (!(x6.epoch==(aaV .i64 (s.1.2.1+1)))) (some (.inr (.inl (((),false,()),s.2.1,(()))))) (some (.inl (((),(aaV .i64 (s.1.2.1+1)),()),s.2.1,(()))))) none)) none) (some (.inr (.inr (((),(),()),s.2.1,(())))))
def GF:=mh Dd
def Qh[dp] :=FM Tryz.f147 [0] MO Dd [H4] [] (by kernel_rfl) λs=>by simp only[Dd,tm];kernel_rfl
def CP(a0:jr):Option (Bool×Unit):=
 (GF (((),0,()),((a0.configs,a0.activated,()),()),(()))).bind λe7=>Sum.elim (λe7_0=>some e7_0.1.2) (λe7_1=>(CM e7_1.2.1.1.2.1 0 (e7_1.2.1.1.1.length:Int)).bind λy8=>some (y8.1,())) e7
def JM[dp] :=C4 147 Tryz.f147 Vb [.b] (λx=>CP x.1) [Ds] [Qh] (by kernel_rfl) λx=>by simp only[CP,tm];kernel_rfl
def ES(a0:sS):Option (Bool×Unit):=
 br ((a0.epoch==0)&&((a0.holder==0)&&((a0.ends==0)&&true))) (some (true,())) ((CM a0.epoch 1 20).bind λy1=>br y1.1 ((CM a0.holder 0 4).bind λy2=>br y2.1 ((CM a0.ends 1 1049).bind λy3=>some (y3.1,())) (some (false,()))) (some (false,())))
def LU[dp] :=C4 144 Tryz.f144 VI [.b] (λx=>ES x.1) [Ds] [] (by kernel_rfl) λx=>by simp only[ES,tm];kernel_rfl
def Dl(a0:Op):Option (Bool×Unit):=
 (CM a0.client 0 2).bind λy1=>br (!y1.1) (some (false,())) ((CM a0.seq 1 99).bind λy2=>br (!y2.1) (some (false,())) ((CM a0.object 0 2).bind λy3=>br (!y3.1) (some (false,())) ((CM a0.value 0 9).bind λy4=>br (!y4.1) (some (false,())) (br (a0.kind==1) (br (a0.old==0) (some (true,())) (br (a0.kind==2) ((CM a0.old 0 9).bind λy5=>some (y5.1,())) (some (false,())))) (br (a0.kind==2) ((CM a0.old 0 9).bind λy6=>some (y6.1,())) (some (false,())))))))
def J3[dp] :=C4 181 Tryz.f181 Uh [.b] (λx=>Dl x.1) [Ds] [] (by kernel_rfl) λx=>by simp only[Dl,tm];kernel_rfl
abbrev SG:LX:=⟨⟨[Kl,K3],[],[],0,47⟩,[(.ret,⟨[Kl,K2],[],[],0,47⟩),(.ext 0,⟨[Kl,Nl],[],[],0,47⟩)],[],[0,3],[0,2]⟩
def Hn(s:Zo×Unit×Unit):SG.R:=
 br (decide (s.1.2.1< (s.1.1.length:Int))) (iteP (0<=s.1.2.1) ((s.1.1[s.1.2.1.toNat]?).bind λx3=>(CM x3.epoch 1 20).bind λy4=>br (!y4.1) (some (.inr (.inl ((s.1.1,false,()),(()),(()))))) (iteP (0<=s.1.2.1) ((s.1.1[s.1.2.1.toNat]?).bind λx5=>(Dl x5.op).bind λy6=>br (!y6.1) (some (.inr (.inl ((s.1.1,false,()),(()),(()))))) (br (decide (s.1.2.1>0)) (iteP (0<=(aaV .i64 (s.1.2.1-1))) ((s.1.1[(aaV .i64 (s.1.2.1-1)).toNat]?).bind λx7=>iteP (0<=s.1.2.1) ((s.1.1[s.1.2.1.toNat]?).bind λx8=>br (decide (x7.epoch>x8.epoch)) (some (.inr (.inl ((s.1.1,false,()),(()),(()))))) (some (.inl ((s.1.1,(aaV .i64 (s.1.2.1+1)),()),(()),(()))))) none) none) (some (.inl ((s.1.1,(aaV .i64 (s.1.2.1+1)),()),(()),(())))))) none)) none) (some (.inr (.inr ((s.1.1,(),()),(()),(())))))
def LZ:=mh Hn
def WD[dp] :=FM Tryz.f115 [0] SG Hn [Ds,J3] [] (by kernel_rfl) λs=>by simp only[Hn,tm];kernel_rfl
def Dk(a0:List pS):Option (Bool×Unit):=
 (LZ ((a0,0,()),(()),(()))).bind λe9=>Sum.elim (λe9_0=>some e9_0.1.2) (λe9_1=>some ((decide ((e9_1.1.1.length:Int)<=16)),())) e9
def Kz[dp] :=C4 115 Tryz.f115 Ot [.b] (λx=>Dk x.1) [] [WD] (by kernel_rfl) λx=>by simp only[Dk,tm];kernel_rfl
abbrev Mc:LX:=⟨⟨[Mv,O0,LC],[],[],0,26⟩,[(.ret,⟨[N2],[],[],0,26⟩),(.ext 0,⟨[MH],[],[],0,26⟩)],[],[0,1,5],[4]⟩
def Fl(s: (List Int×List Int×Int×Unit)×Unit×Unit):Mc.R:=
 br (decide (s.1.2.2.1< (s.1.1.length:Int))) (iteP (0<=s.1.2.2.1) ((s.1.1[s.1.2.2.1.toNat]?).bind λx4=>iteP (0<=s.1.2.2.1) ((s.1.2.1[s.1.2.2.1.toNat]?).bind λx5=>br (!(x4==x5)) (some (.inr (.inl ((false,()),(()),(()))))) (some (.inl ((s.1.1,s.1.2.1,(aaV .i64 (s.1.2.2.1+1)),()),(()),(()))))) none) none) (some (.inr (.inr (((),()),(()),(())))))
def Jr:=mh Fl
def Px[dp] :=FM Tryz.f210 [0] Mc Fl [] [] (by kernel_rfl) λs=>by simp only[Fl,tm];kernel_rfl
def Gh(a0:List Int)(a1:List Int):Option (Bool×Unit):=
 br (!((a0.length:Int)==(a1.length:Int))) (some (false,())) ((Jr ((a0,a1,0,()),(()),(()))).bind λe6=>Sum.elim (λe6_0=>some e6_0.1) (λ_=>some (true,())) e6)
def QJ[dp] :=C4 210 Tryz.f210 Tl [.b] (λx=>Gh x.1 x.2.1) [] [Px] (by kernel_rfl) λx=>by simp only[Gh,tm];kernel_rfl
def Ew(a0:mt)(a1:mt):Option (Bool×Unit):=
 br (a0.epoch==a1.epoch) (br (a0.primary==a1.primary) ((Gh a0.replicas a1.replicas).bind λy1=>br y1.1 ((Gh a0.witnesses a1.witnesses).bind λy2=>some (y2.1,())) (some (false,()))) (some (false,()))) (some (false,()))
def IZ[dp] :=C4 163 Tryz.f163 YY [.b] (λx=>Ew x.1 x.2.1) [QJ] [] (by kernel_rfl) λx=>by simp only[Ew,tm];kernel_rfl
def GN(a0:mt):Option (Bool×Unit):=
 (Ew a0 (⟨0,0,([]:List Int),([]:List Int)⟩:mt)).bind λy1=>some (y1.1,())
def NI[dp] :=C4 162 Tryz.f162 Va [.b] (λx=>GN x.1) [IZ] [] (by kernel_rfl) λx=>by simp only[GN,tm];kernel_rfl
def FL(a0:List pS):Option (Int×Unit):=
 br ((a0.length:Int)==0) (some (0,())) (iteP (0<=(aaV .i64 ((a0.length:Int)-1))) ((a0[(aaV .i64 ((a0.length:Int)-1)).toNat]?).bind λx1=>some (x1.epoch,())) none)
def Po[dp] :=C4 150 Tryz.f150 Ot HS (λx=>FL x.1) [] [] (by kernel_rfl) λx=>by simp only[FL,tm];kernel_rfl
def Dm(a0:mt)(a1:Int):Option (Int×Unit):=
 (CE a0).bind λy1=>br (!y1.1) (some (0,())) (br (a1==a0.primary) (some (1,())) ((Dj a0.replicas a1).bind λy2=>br y2.1 (some (2,())) ((Dj a0.witnesses a1).bind λy3=>br y3.1 (some (3,())) (some (0,())))))
def LW[dp] :=C4 119 Tryz.f119 YZ HS (λx=>Dm x.1 x.2.1) [H4,Fi] [] (by kernel_rfl) λx=>by simp only[Dm,tm];kernel_rfl
def CH(a0:oU)(a1:Int):Option (Bool×Unit):=
 (CM a0.version 1 2).bind λy1=>br (!y1.1) (some (false,())) ((CM a0.epoch 0 20).bind λy2=>br (!y2.1) (some (false,())) ((Dk a0.log).bind λy3=>br (!y3.1) (some (false,())) ((Dk a0.learned).bind λy4=>br (!y4.1) (some (false,())) ((CM a0.first 0 16).bind λy5=>br (!y5.1) (some (false,())) ((CM (aaV .i64 (a0.first+(a0.log.length:Int))) 0 16).bind λy6=>br (!y6.1) (some (false,())) ((CM a0.commit 0 (aaV .i64 (a0.first+(a0.log.length:Int)))).bind λy7=>br (!y7.1) (some (false,())) ((GN a0.config).bind λy8=>br y8.1 (br (a0.first==0) (br ((a0.log.length:Int)==0) (some ((a0.commit==0),())) (some (false,()))) (some (false,()))) (br (!a0.intact) (some (false,())) (br (decide (a0.epoch<a0.config.epoch)) (some (false,())) ((FL a0.log).bind λy9=>br (decide (y9.1>a0.config.epoch)) (some (false,())) ((Dm a0.config a1).bind λy10=>br (y10.1==0) (some (false,())) (br (y10.1==3) (br (decide ((a0.log.length:Int)<=3)) (br ((a0.log.length:Int)==3) (some (true,())) (some ((a0.first==0),()))) (some (false,()))) (some ((a0.first==0),()))))))))))))))
def MB[dp] :=C4 161 Tryz.f161 Tm [.b] (λx=>CH x.1 x.2.1) [Ds,Kz,NI,Po,LW] [] (by kernel_rfl) λx=>by simp only[CH,tm];kernel_rfl
def DG(a0:jr)(a1:Int):Option (mt×Bool×Unit):=
 (CP a0).bind λy1=>br (!y1.1) (some ((⟨0,0,([]:List Int),([]:List Int)⟩:mt),false,())) ((CM a1 1 (a0.configs.length:Int)).bind λy2=>br (!y2.1) (some ((⟨0,0,([]:List Int),([]:List Int)⟩:mt),false,())) (iteP (0<=(aaV .i64 (a1-1))) ((a0.configs[(aaV .i64 (a1-1)).toNat]?).bind λx3=>(Fx x3).bind λy4=>some (y4.1,true,())) none))
def Ol[dp] :=C4 158 Tryz.f158 VJ Wx (λx=>DG x.1 x.2.1) [JM,Ds,Nc] [] (by kernel_rfl) λx=>by simp only[DG,tm];kernel_rfl
abbrev K6:LX:=⟨⟨[HQ,K3],[I5],[],0,123⟩,[(.ret,⟨[K2],[],[],0,123⟩),(.ext 0,⟨[Nl],[],[],0,123⟩)],[],[1,3],[2]⟩
def CL(s:Rb×(L8×Unit)×Unit):K6.R:=
 br (decide (s.1.2.1< (s.2.1.1.2.1.length:Int))) (iteP (0<=s.1.2.1) ((s.2.1.1.2.1[s.1.2.1.toNat]?).bind λx18=>(CH x18 s.1.2.1).bind λy19=>br (!y19.1) (some (.inr (.inl ((false,()),(()),(()))))) (br (decide (x18.epoch>(s.2.1.1.2.2.2.1.length:Int))) (some (.inr (.inl ((false,()),(()),(()))))) ((FL x18.learned).bind λy20=>br (decide (y20.1>s.2.1.1.2.2.2.2.1)) (some (.inr (.inl ((false,()),(()),(()))))) ((DG (⟨s.2.1.1.2.2.2.1,s.2.1.1.2.2.2.2.1⟩:jr) x18.config.epoch).bind λy21=>(GN x18.config).bind λy22=>br (!y22.1) (br (!y21.2.1) (some (.inr (.inl ((false,()),(()),(()))))) ((Ew y21.1 x18.config).bind λy23=>br (!y23.1) (some (.inr (.inl ((false,()),(()),(()))))) (br (decide (x18.config.epoch>s.2.1.1.2.2.2.2.1)) (some (.inr (.inl ((false,()),(()),(()))))) (some (.inl (((),(aaV .i64 (s.1.2.1+1)),()),s.2.1,(()))))))) (some (.inl (((),(aaV .i64 (s.1.2.1+1)),()),s.2.1,(())))))))) none) (some (.inr (.inr (((),()),(()),(())))))
def EU:=mh CL
def Oy[dp] :=FM Tryz.f79 [0] K6 CL [MB,Po,Ol,NI,IZ] [] (by kernel_rfl) λs=>by simp only[CL,tm];kernel_rfl
def CC(a0:oQ):Option (Bool×Unit):=
 (CM a0.now 0 999).bind λy1=>br (!y1.1) (some (false,())) (br (!((a0.servers.length:Int)==5)) (some (false,())) ((EP a0.sides).bind λy2=>br (!y2.1) (some (false,())) ((CP a0.master).bind λy3=>br (!y3.1) (some (false,())) ((CM a0.masterUp 0 3).bind λy4=>br (!y4.1) (some (false,())) ((ES a0.lease).bind λy5=>br (!y5.1) (some (false,())) ((Di a0.places).bind λy6=>br (!y6.1) (some (false,())) (br (decide (a0.lease.epoch>a0.master.activated)) (some (false,())) ((EU (((),0,()),((a0.now,a0.servers,a0.sides,a0.master.configs,a0.master.activated,a0.masterUp,a0.lease.epoch,a0.lease.holder,a0.lease.ends,a0.places,()),()),(()))).bind λe24=>Sum.elim (λe24_0=>some e24_0.1) (λ_=>some (true,())) e24))))))))
def CN[dp] :=C4 79 Tryz.f79 L5 [.b] (λx=>CC x.1) [Ds,Mr,JM,LU,J2] [Oy] (by kernel_rfl) λx=>by simp only[CC,tm];kernel_rfl
def LS(a0:Int):Option (Bool×Bool×Bool×Unit):=
 br (a0==1) (some (true,false,false,())) (let j5 (p1:Bool):Option (Bool×Bool×Bool×Unit):=br p1 (some (true,false,false,())) (let j4 (p2:Bool):Option (Bool×Bool×Bool×Unit):=br p2 (some (true,false,true,())) (br (a0==4) (some (false,true,true,())) (br (a0==10) (some (false,false,true,())) (br (a0==11) (some (false,false,true,())) (br (a0==12) (some (true,true,true,())) (br (a0==16) (some (false,true,true,())) (some (false,false,false,())))))));br (a0==2) (j4 true) (br (a0==3) (j4 true) (j4 (a0==9))));br (a0==6) (j5 true) (br (a0==7) (j5 true) (br (a0==8) (j5 true) (br (a0==13) (j5 true) (br (a0==14) (j5 true) (j5 (a0==15)))))))
def Wv[dp] :=C4 267 Tryz.f267 Tj [.b,.b,.b] (λx=>LS x.1) [] [] (by kernel_rfl) λx=>by simp only[LS,tm];kernel_rfl
def G4(a0:u7):Option (Bool×Unit):=
 (CM a0.kind 1 16).bind λy1=>br (!y1.1) (some (false,())) ((CM a0.server 0 4).bind λy2=>br (!y2.1) (some (false,())) ((CM a0.other 0 4).bind λy3=>br (!y3.1) (some (false,())) ((CM a0.n 0 999).bind λy4=>br (!y4.1) (some (false,())) ((LS a0.kind).bind λy5=>let j7:Option (Bool×Unit):=br (a0.kind==1) ((Dl a0.op).bind λy6=>some (y6.1,())) (some (((a0.op.client==0)&&((a0.op.seq==0)&&((a0.op.kind==0)&&((a0.op.object==0)&&((a0.op.old==0)&&((a0.op.value==0)&&true)))))),()));br (!y5.1) (br (!(a0.server==0)) (some (false,())) (br (!y5.2.1) (br (!(a0.other==0)) (some (false,())) (br (!y5.2.2.1) (br (!(a0.n==0)) (some (false,())) (j7)) (j7))) (br (!y5.2.2.1) (br (!(a0.n==0)) (some (false,())) (j7)) (j7)))) (br (!y5.2.1) (br (!(a0.other==0)) (some (false,())) (br (!y5.2.2.1) (br (!(a0.n==0)) (some (false,())) (j7)) (j7))) (br (!y5.2.2.1) (br (!(a0.n==0)) (some (false,())) (j7)) (j7)))))))
def QK[dp] :=C4 250 Tryz.f250 [.ty (.st .event)] [.b] (λx=>G4 x.1) [Ds,Wv,J3] [] (by kernel_rfl) λx=>by simp only[G4,tm];kernel_rfl
def CT(a0:oU)(a1:Int):Option (Bool×Unit):=
 (CH a0 a1).bind λy1=>br y1.1 (br a0.up ((Dm a0.config a1).bind λy2=>br (y2.1==1) (some ((a0.epoch==a0.config.epoch),())) (some (false,()))) (some (false,()))) (some (false,()))
def Hb[dp] :=C4 109 Tryz.f109 Tm [.b] (λx=>CT x.1 x.2.1) [MB,LW] [] (by kernel_rfl) λx=>by simp only[CT,tm];kernel_rfl
abbrev Re:LX:=⟨⟨[Kl,KC,O1,MT],[],[],0,33⟩,[(.ret,⟨[NQ],[],[],0,33⟩),(.ext 0,⟨[Xq],[],[],0,33⟩)],[],[0,1,2,7],[6]⟩
def Jd(s: (List pS×Int×Int×Int×Unit)×Unit×Unit):Re.R:=
 br (decide (s.1.2.2.2.1< (s.1.1.length:Int))) (iteP (0<=s.1.2.2.2.1) ((s.1.1[s.1.2.2.2.1.toNat]?).bind λx5=>br (x5.op.client==s.1.2.1) (iteP (0<=s.1.2.2.2.1) ((s.1.1[s.1.2.2.2.1.toNat]?).bind λx6=>br (x6.op.seq==s.1.2.2.1) (some (.inr (.inl (s.1.2.2.2,(()),(()))))) (some (.inl ((s.1.1,s.1.2.1,s.1.2.2.1,(aaV .i64 (s.1.2.2.2.1+1)),()),(()),(()))))) none) (some (.inl ((s.1.1,s.1.2.1,s.1.2.2.1,(aaV .i64 (s.1.2.2.2.1+1)),()),(()),(()))))) none) (some (.inr (.inr (((),()),(()),(())))))
def U5:=mh Jd
def Vj[dp] :=FM Tryz.f269 [0] Re Jd [] [] (by kernel_rfl) λs=>by simp only[Jd,tm];kernel_rfl
def LL(a0:List pS)(a1:Int)(a2:Int):Option (Int×Unit):=
 (U5 ((a0,a1,a2,0,()),(()),(()))).bind λe7=>Sum.elim (λe7_0=>some e7_0.1) (λ_=>some ((-1),())) e7
def TZ[dp] :=C4 269 Tryz.f269 Y0 HS (λx=>LL x.1 x.2.1 x.2.2.1) [] [Vj] (by kernel_rfl) λx=>by simp only[LL,tm];kernel_rfl
def Ku:Option (md×Unit):=
 some ((⟨([0,0,0]:List Int),([]:List me)⟩:md),())
def S6[dp] :=C4 114 Tryz.f114 [] [.st .machine] (λ_=>Ku) [] [] (by kernel_rfl) λx=>by simp only[Ku,tm];kernel_rfl
def M7(a0:md):Option (md×Unit):=
 iteP ((([]:List Int)++a0.objects).length*8<=2 ^ 40) (iteP ((([]:List me)++a0.sessions).length*32<=2 ^ 40) (some ((⟨(([]:List Int)++a0.objects),(([]:List me)++a0.sessions)⟩:md),())) none) none
def Xh[dp] :=C4 182 Tryz.f182 [.ty (.st .machine)] [.st .machine] (λx=>M7 x.1) [] [] (by kernel_rfl) λx=>by simp only[M7,tm];kernel_rfl
abbrev K7:LX:=⟨⟨[HQ,K3],[Ve],[],0,69⟩,[(.ret,⟨[HQ,K2],[Ve],[],0,69⟩),(.ext 0,⟨[HQ,Nl],[Ve],[],0,69⟩)],[],[1,3],[1,2]⟩
def Ek(s:Rb×(Z3×Unit)×Unit):K7.R:=
 br (decide (s.1.2.1< (s.2.1.1.1.length:Int))) (iteP (0<=s.1.2.1) ((s.2.1.1.1[s.1.2.1.toNat]?).bind λx4=>(CM x4 0 9).bind λy5=>br (!y5.1) (some (.inr (.inl (((),false,()),s.2.1,(()))))) (some (.inl (((),(aaV .i64 (s.1.2.1+1)),()),s.2.1,(()))))) none) (some (.inr (.inr (((),(),()),s.2.1,(())))))
def KW:=mh Ek
def Oz[dp] :=FM Tryz.f183 [0] K7 Ek [Ds] [] (by kernel_rfl) λs=>by simp only[Ek,tm];kernel_rfl
abbrev K8:LX:=⟨⟨[HQ,Lf],[Ve],[],0,69⟩,[(.ret,⟨[HQ,K2],[Ve],[],0,69⟩),(.ext 2,⟨[HQ,Nl],[Ve],[],0,69⟩)],[],[1,4],[1,2]⟩
def El(s:Rb×(Z3×Unit)×Unit):K8.R:=
 br (decide (s.1.2.1< (s.2.1.1.2.1.length:Int))) (iteP (0<=s.1.2.1) ((s.2.1.1.2.1[s.1.2.1.toNat]?).bind λx10=>(CM x10.client 0 2).bind λy11=>br (!y11.1) (some (.inr (.inl (((),false,()),s.2.1,(()))))) ((CM x10.seq 1 99).bind λy12=>br (!y12.1) (some (.inr (.inl (((),false,()),s.2.1,(()))))) ((CM x10.result.value 0 9).bind λy13=>br (!y13.1) (some (.inr (.inl (((),false,()),s.2.1,(()))))) (br (decide (s.1.2.1>0)) (iteP (0<=(aaV .i64 (s.1.2.1-1))) ((s.2.1.1.2.1[(aaV .i64 (s.1.2.1-1)).toNat]?).bind λx14=>br (decide (x14.client≥x10.client)) (some (.inr (.inl (((),false,()),s.2.1,(()))))) (some (.inl (((),(aaV .i64 (s.1.2.1+1)),()),s.2.1,(()))))) none) (some (.inl (((),(aaV .i64 (s.1.2.1+1)),()),s.2.1,(())))))))) none) (some (.inr (.inr (((),(),()),s.2.1,(())))))
def Ib:=mh El
def OA[dp] :=FM Tryz.f183 [1] K8 El [Ds] [] (by kernel_rfl) λs=>by simp only[El,tm];kernel_rfl
def Ep(a0:md):Option (Bool×Unit):=
 (KW (((),0,()),((a0.objects,a0.sessions,()),()),(()))).bind λe6=>Sum.elim (λe6_0=>some e6_0.1.2) (λe6_1=>(Ib (((),0,()),e6_1.2.1,(()))).bind λe15=>Sum.elim (λe15_0=>some e15_0.1.2) (λe15_1=>some (((e15_1.2.1.1.1.length:Int)==3),())) e15) e6
def LV[dp] :=C4 183 Tryz.f183 [.ty (.st .machine)] [.b] (λx=>Ep x.1) [] [Oz,OA] (by kernel_rfl) λx=>by simp only[Ep,tm];kernel_rfl
abbrev Oa:LX:=⟨⟨[KC,Mu,SB,NQ],[Ve,XF],[],0,28⟩,[(.ret,⟨[N3,(5,.cl (.bl))],[XF],[],0,28⟩),(.ext 0,⟨[N3,(5,.cl (.dead))],[XF],[],0,28⟩)],[],[1,2,4,6],[4,5]⟩
def JG(s: (Int×Unit×Unit×Int×Unit)×(Z3×(Int×Int×Bool×Int×Unit)×Unit)×Unit):Oa.R:=
 br (decide (s.1.2.2.2.1< (s.2.1.1.2.1.length:Int))) (iteP (0<=s.1.2.2.2.1) ((s.2.1.1.2.1[s.1.2.2.2.1.toNat]?).bind λx9=>br (x9.client==s.1.1) (iteP (0<=s.1.2.2.2.1) ((s.2.1.1.2.1[s.1.2.2.2.1.toNat]?).bind λx10=>some (.inr (.inl (((),true,()),((x10.client,x10.seq,x10.result.done,x10.result.value,()),()),(()))))) none) (some (.inl ((s.1.1,(),(),(aaV .i64 (s.1.2.2.2.1+1)),()),s.2.1,(()))))) none) (some (.inr (.inr (((),(),()),s.2.1.2,(())))))
def R8:=mh JG
def Sk[dp] :=FM Tryz.f184 [0] Oa JG [] [] (by kernel_rfl) λs=>by simp only[JG,tm];kernel_rfl
def JW(a0:md)(a1:Int):Option (me×Bool×Unit):=
 (R8 ((a1,(),(),0,()),((a0.objects,a0.sessions,()),(0,0,false,0,()),()),(()))).bind λe11=>Sum.elim (λe11_0=>some ((⟨e11_0.2.1.1.1,e11_0.2.1.1.2.1,(⟨e11_0.2.1.1.2.2.1,e11_0.2.1.1.2.2.2.1⟩:Result)⟩:me),e11_0.1.2)) (λ_=>some ((⟨0,0,(⟨false,0⟩:Result)⟩:me),false,())) e11
def T5[dp] :=C4 184 Tryz.f184 Y1 [.st .session,.b] (λx=>JW x.1 x.2.1) [] [Sk] (by kernel_rfl) λx=>by simp only[JW,tm];kernel_rfl
abbrev O3:LX:=⟨⟨[Q7,SB,(5,.cl (.ptr 2 0)),Xr,SC,(11,.cl (.ptr 4 0)),Ni],[Zx,[.em,.em],VX,VY,VX],Yx,0,127⟩,[(.ext 0,⟨[Q7,SB,(5,.cl (.ptr 2 0)),Xr,SC,(11,.cl (.ptr 4 0)),Ni],[Zx,[.em,.em],VX,VY,VX],Yx,0,127⟩)],[],[3,4,5,7,9,11,12],[3,4,5,7,9,11,12]⟩
def Hl(s: (Unit×Unit×Unit×Unit×Bool×Unit×Int×Unit)×((Int×Int×Int×Int×Int×Int×Unit)×XB×(Bool×Int×Unit)×XB×(Bool×Int×Unit)×Unit)×List Int×List me×Unit):O3.R:=
 br (decide (s.1.2.2.2.2.2.2.1< (s.2.2.2.1.length:Int))) (iteP (0<=s.1.2.2.2.2.2.2.1/\s.1.2.2.2.2.2.2.1< (s.2.2.2.1.length:Int)) ((s.2.2.2.1[s.1.2.2.2.2.2.2.1.toNat]?).bind λx22=>br (decide (x22.client<s.2.1.1.1)) (some (.inl (((),(),(),(),s.1.2.2.2.2.1,(),(aaV .i64 (s.1.2.2.2.2.2.2.1+1)),()),s.2))) (some (.inr s))) none) (some (.inr s))
def KB:=mh Hl
def Tu[dp] :=FM Tryz.f116 [0] O3 Hl [] [] (by kernel_rfl) λs=>by simp only[Hl,tm];kernel_rfl
def Jf(a0:md)(a1:Op):Option (md×Result×Bool×Unit):=
 (M7 a0).bind λy1=>(Ep a0).bind λy2=>br (!y2.1) (some (y1.1,(⟨false,0⟩:Result),false,())) ((Dl a1).bind λy3=>br (!y3.1) (some (y1.1,(⟨false,0⟩:Result),false,())) ((JW a0 a1.client).bind λy4=>let j45:Option (md×Result×Bool×Unit):=let j44:Option (md×Result×Bool×Unit):=iteP (0<=a1.object) ((a0.objects[a1.object.toNat]?).bind λx5=>br (a1.kind==1) (iteP (0<=a1.object/\a1.object< (y1.1.objects.length:Int)) ((y1.1.objects[a1.object.toNat]?).bind λ_=>(KB (((),(),(),(),y4.2.1,(),0,()),((a1.client,a1.seq,a1.kind,a1.object,a1.old,a1.value,()),((),(),()),(false,0,()),((),(),()),(true,x5,()),()),(y1.1.objects.set a1.object.toNat a1.value),y1.1.sessions,())).bind λe23=>iteP (0<=e23.1.2.2.2.2.2.2.1/\e23.1.2.2.2.2.2.2.1<=(e23.2.2.2.1.length:Int)/\(e23.2.2.2.1.length:Int)<=((e23.2.2.2.1.length:Nat):Int)) (br e23.1.2.2.2.2.1 (iteP (0<=(aaV .i64 (e23.1.2.2.2.2.2.2.1+1))/\(aaV .i64 (e23.1.2.2.2.2.2.2.1+1))<=(e23.2.2.2.1.length:Int)/\(e23.2.2.2.1.length:Int)<=((e23.2.2.2.1.length:Nat):Int)) (iteP (0<=(0:Int)/\(0:Int)<=e23.1.2.2.2.2.2.2.1/\e23.1.2.2.2.2.2.2.1<=((e23.2.2.2.1.length:Nat):Int)) (iteP ((0+(0:Int).toNat)+(e23.1.2.2.2.2.2.2.1.toNat-(0:Int).toNat)<=e23.2.2.2.1.length) (iteP ((([]:List me)++((e23.2.2.2.1.drop (0+(0:Int).toNat)).take (e23.1.2.2.2.2.2.2.1.toNat-(0:Int).toNat))).length*32<=2 ^ 40) (iteP (((([]:List me)++((e23.2.2.2.1.drop (0+(0:Int).toNat)).take (e23.1.2.2.2.2.2.2.1.toNat-(0:Int).toNat)))++([(⟨e23.2.1.1.1,e23.2.1.1.2.1,(⟨e23.2.1.2.2.2.2.1.1,e23.2.1.2.2.2.2.1.2.1⟩:Result)⟩:me)]:List me)).length*32<=2 ^ 40) (iteP ((0+(aaV .i64 (e23.1.2.2.2.2.2.2.1+1)).toNat)+((e23.2.2.2.1.length:Int).toNat-(aaV .i64 (e23.1.2.2.2.2.2.2.1+1)).toNat)<=e23.2.2.2.1.length) (iteP ((((([]:List me)++((e23.2.2.2.1.drop (0+(0:Int).toNat)).take (e23.1.2.2.2.2.2.2.1.toNat-(0:Int).toNat)))++([(⟨e23.2.1.1.1,e23.2.1.1.2.1,(⟨e23.2.1.2.2.2.2.1.1,e23.2.1.2.2.2.2.1.2.1⟩:Result)⟩:me)]:List me))++((e23.2.2.2.1.drop (0+(aaV .i64 (e23.1.2.2.2.2.2.2.1+1)).toNat)).take ((e23.2.2.2.1.length:Int).toNat-(aaV .i64 (e23.1.2.2.2.2.2.2.1+1)).toNat))).length*32<=2 ^ 40) (some ((⟨e23.2.2.1,(((([]:List me)++((e23.2.2.2.1.drop (0+(0:Int).toNat)).take (e23.1.2.2.2.2.2.2.1.toNat-(0:Int).toNat)))++([(⟨e23.2.1.1.1,e23.2.1.1.2.1,(⟨e23.2.1.2.2.2.2.1.1,e23.2.1.2.2.2.2.1.2.1⟩:Result)⟩:me)]:List me))++((e23.2.2.2.1.drop (0+(aaV .i64 (e23.1.2.2.2.2.2.2.1+1)).toNat)).take ((e23.2.2.2.1.length:Int).toNat-(aaV .i64 (e23.1.2.2.2.2.2.2.1+1)).toNat)))⟩:md),(⟨e23.2.1.2.2.2.2.1.1,e23.2.1.2.2.2.2.1.2.1⟩:Result),true,())) none) none) none) none) none) none) none) (iteP (0<=(0:Int)/\(0:Int)<=e23.1.2.2.2.2.2.2.1/\e23.1.2.2.2.2.2.2.1<=((e23.2.2.2.1.length:Nat):Int)) (iteP ((0+(0:Int).toNat)+(e23.1.2.2.2.2.2.2.1.toNat-(0:Int).toNat)<=e23.2.2.2.1.length) (iteP ((([]:List me)++((e23.2.2.2.1.drop (0+(0:Int).toNat)).take (e23.1.2.2.2.2.2.2.1.toNat-(0:Int).toNat))).length*32<=2 ^ 40) (iteP (((([]:List me)++((e23.2.2.2.1.drop (0+(0:Int).toNat)).take (e23.1.2.2.2.2.2.2.1.toNat-(0:Int).toNat)))++([(⟨e23.2.1.1.1,e23.2.1.1.2.1,(⟨e23.2.1.2.2.2.2.1.1,e23.2.1.2.2.2.2.1.2.1⟩:Result)⟩:me)]:List me)).length*32<=2 ^ 40) (iteP ((0+e23.1.2.2.2.2.2.2.1.toNat)+((e23.2.2.2.1.length:Int).toNat-e23.1.2.2.2.2.2.2.1.toNat)<=e23.2.2.2.1.length) (iteP ((((([]:List me)++((e23.2.2.2.1.drop (0+(0:Int).toNat)).take (e23.1.2.2.2.2.2.2.1.toNat-(0:Int).toNat)))++([(⟨e23.2.1.1.1,e23.2.1.1.2.1,(⟨e23.2.1.2.2.2.2.1.1,e23.2.1.2.2.2.2.1.2.1⟩:Result)⟩:me)]:List me))++((e23.2.2.2.1.drop (0+e23.1.2.2.2.2.2.2.1.toNat)).take ((e23.2.2.2.1.length:Int).toNat-e23.1.2.2.2.2.2.2.1.toNat))).length*32<=2 ^ 40) (some ((⟨e23.2.2.1,(((([]:List me)++((e23.2.2.2.1.drop (0+(0:Int).toNat)).take (e23.1.2.2.2.2.2.2.1.toNat-(0:Int).toNat)))++([(⟨e23.2.1.1.1,e23.2.1.1.2.1,(⟨e23.2.1.2.2.2.2.1.1,e23.2.1.2.2.2.2.1.2.1⟩:Result)⟩:me)]:List me))++((e23.2.2.2.1.drop (0+e23.1.2.2.2.2.2.2.1.toNat)).take ((e23.2.2.2.1.length:Int).toNat-e23.1.2.2.2.2.2.2.1.toNat)))⟩:md),(⟨e23.2.1.2.2.2.2.1.1,e23.2.1.2.2.2.2.1.2.1⟩:Result),true,())) none) none) none) none) none) none)) none) none) (let j43 (p26:List Int):Option (md×Result×Bool×Unit):=(KB (((),(),(),(),y4.2.1,(),0,()),((a1.client,a1.seq,a1.kind,a1.object,a1.old,a1.value,()),((),(),()),(false,0,()),((),(),()),((x5==a1.old),x5,()),()),p26,y1.1.sessions,())).bind λe42=>iteP (0<=e42.1.2.2.2.2.2.2.1/\e42.1.2.2.2.2.2.2.1<=(e42.2.2.2.1.length:Int)/\(e42.2.2.2.1.length:Int)<=((e42.2.2.2.1.length:Nat):Int)) (br e42.1.2.2.2.2.1 (iteP (0<=(aaV .i64 (e42.1.2.2.2.2.2.2.1+1))/\(aaV .i64 (e42.1.2.2.2.2.2.2.1+1))<=(e42.2.2.2.1.length:Int)/\(e42.2.2.2.1.length:Int)<=((e42.2.2.2.1.length:Nat):Int)) (iteP (0<=(0:Int)/\(0:Int)<=e42.1.2.2.2.2.2.2.1/\e42.1.2.2.2.2.2.2.1<=((e42.2.2.2.1.length:Nat):Int)) (iteP ((0+(0:Int).toNat)+(e42.1.2.2.2.2.2.2.1.toNat-(0:Int).toNat)<=e42.2.2.2.1.length) (iteP ((([]:List me)++((e42.2.2.2.1.drop (0+(0:Int).toNat)).take (e42.1.2.2.2.2.2.2.1.toNat-(0:Int).toNat))).length*32<=2 ^ 40) (iteP (((([]:List me)++((e42.2.2.2.1.drop (0+(0:Int).toNat)).take (e42.1.2.2.2.2.2.2.1.toNat-(0:Int).toNat)))++([(⟨e42.2.1.1.1,e42.2.1.1.2.1,(⟨e42.2.1.2.2.2.2.1.1,e42.2.1.2.2.2.2.1.2.1⟩:Result)⟩:me)]:List me)).length*32<=2 ^ 40) (iteP ((0+(aaV .i64 (e42.1.2.2.2.2.2.2.1+1)).toNat)+((e42.2.2.2.1.length:Int).toNat-(aaV .i64 (e42.1.2.2.2.2.2.2.1+1)).toNat)<=e42.2.2.2.1.length) (iteP ((((([]:List me)++((e42.2.2.2.1.drop (0+(0:Int).toNat)).take (e42.1.2.2.2.2.2.2.1.toNat-(0:Int).toNat)))++([(⟨e42.2.1.1.1,e42.2.1.1.2.1,(⟨e42.2.1.2.2.2.2.1.1,e42.2.1.2.2.2.2.1.2.1⟩:Result)⟩:me)]:List me))++((e42.2.2.2.1.drop (0+(aaV .i64 (e42.1.2.2.2.2.2.2.1+1)).toNat)).take ((e42.2.2.2.1.length:Int).toNat-(aaV .i64 (e42.1.2.2.2.2.2.2.1+1)).toNat))).length*32<=2 ^ 40) (some ((⟨e42.2.2.1,(((([]:List me)++((e42.2.2.2.1.drop (0+(0:Int).toNat)).take (e42.1.2.2.2.2.2.2.1.toNat-(0:Int).toNat)))++([(⟨e42.2.1.1.1,e42.2.1.1.2.1,(⟨e42.2.1.2.2.2.2.1.1,e42.2.1.2.2.2.2.1.2.1⟩:Result)⟩:me)]:List me))++((e42.2.2.2.1.drop (0+(aaV .i64 (e42.1.2.2.2.2.2.2.1+1)).toNat)).take ((e42.2.2.2.1.length:Int).toNat-(aaV .i64 (e42.1.2.2.2.2.2.2.1+1)).toNat)))⟩:md),(⟨e42.2.1.2.2.2.2.1.1,e42.2.1.2.2.2.2.1.2.1⟩:Result),true,())) none) none) none) none) none) none) none) (iteP (0<=(0:Int)/\(0:Int)<=e42.1.2.2.2.2.2.2.1/\e42.1.2.2.2.2.2.2.1<=((e42.2.2.2.1.length:Nat):Int)) (iteP ((0+(0:Int).toNat)+(e42.1.2.2.2.2.2.2.1.toNat-(0:Int).toNat)<=e42.2.2.2.1.length) (iteP ((([]:List me)++((e42.2.2.2.1.drop (0+(0:Int).toNat)).take (e42.1.2.2.2.2.2.2.1.toNat-(0:Int).toNat))).length*32<=2 ^ 40) (iteP (((([]:List me)++((e42.2.2.2.1.drop (0+(0:Int).toNat)).take (e42.1.2.2.2.2.2.2.1.toNat-(0:Int).toNat)))++([(⟨e42.2.1.1.1,e42.2.1.1.2.1,(⟨e42.2.1.2.2.2.2.1.1,e42.2.1.2.2.2.2.1.2.1⟩:Result)⟩:me)]:List me)).length*32<=2 ^ 40) (iteP ((0+e42.1.2.2.2.2.2.2.1.toNat)+((e42.2.2.2.1.length:Int).toNat-e42.1.2.2.2.2.2.2.1.toNat)<=e42.2.2.2.1.length) (iteP ((((([]:List me)++((e42.2.2.2.1.drop (0+(0:Int).toNat)).take (e42.1.2.2.2.2.2.2.1.toNat-(0:Int).toNat)))++([(⟨e42.2.1.1.1,e42.2.1.1.2.1,(⟨e42.2.1.2.2.2.2.1.1,e42.2.1.2.2.2.2.1.2.1⟩:Result)⟩:me)]:List me))++((e42.2.2.2.1.drop (0+e42.1.2.2.2.2.2.2.1.toNat)).take ((e42.2.2.2.1.length:Int).toNat-e42.1.2.2.2.2.2.2.1.toNat))).length*32<=2 ^ 40) (some ((⟨e42.2.2.1,(((([]:List me)++((e42.2.2.2.1.drop (0+(0:Int).toNat)).take (e42.1.2.2.2.2.2.2.1.toNat-(0:Int).toNat)))++([(⟨e42.2.1.1.1,e42.2.1.1.2.1,(⟨e42.2.1.2.2.2.2.1.1,e42.2.1.2.2.2.2.1.2.1⟩:Result)⟩:me)]:List me))++((e42.2.2.2.1.drop (0+e42.1.2.2.2.2.2.2.1.toNat)).take ((e42.2.2.2.1.length:Int).toNat-e42.1.2.2.2.2.2.2.1.toNat)))⟩:md),(⟨e42.2.1.2.2.2.2.1.1,e42.2.1.2.2.2.2.1.2.1⟩:Result),true,())) none) none) none) none) none) none)) none;br (x5==a1.old) (iteP (0<=a1.object/\a1.object< (y1.1.objects.length:Int)) ((y1.1.objects[a1.object.toNat]?).bind λ_=>j43 (y1.1.objects.set a1.object.toNat a1.value)) none) (j43 y1.1.objects))) none;br y4.2.1 (br (decide (y4.1.seq>a1.seq)) (some (y1.1,(⟨false,0⟩:Result),false,())) (j44)) (j44);br y4.2.1 (br (y4.1.seq==a1.seq) (some (y1.1,y4.1.result,true,())) (j45)) (j45)))
def Pi[dp] :=C4 116 Tryz.f116 [.ty (.st .machine),.ty (.st .op)] [.st .machine,.st .result,.b] (λx=>Jf x.1 x.2.1) [Xh,LV,J3,T5] [Tu] (by kernel_rfl) λx=>by simp only[Jf,tm];kernel_rfl
abbrev N8:LX:=⟨⟨[Kl,Mu,SB,LC],[[.em,.em],VY],Yx,0,29⟩,[(.ext 0,⟨[Mu,SB],[[.em,.em],VY],Yx,0,29⟩)],[],[0,2,4,5],[2,4]⟩
def JE(s: (List pS×Unit×Unit×Int×Unit)×(XB×XB×Unit)×List Int×List me×Unit):N8.R:=
 br (decide (s.1.2.2.2.1< (s.1.1.length:Int))) (iteP (0<=s.1.2.2.2.1) ((s.1.1[s.1.2.2.2.1.toNat]?).bind λx7=>(Jf (⟨s.2.2.1,s.2.2.2.1⟩:md) x7.op).bind λy8=>some (.inl ((s.1.1,(),(),(aaV .i64 (s.1.2.2.2.1+1)),()),(((),(),()),((),(),()),()),y8.1.objects,y8.1.sessions,()))) none) (some (.inr (((),(),()),s.2)))
def R6:=mh JE
def Si[dp] :=FM Tryz.f39 [0] N8 JE [Pi] [] (by kernel_rfl) λs=>by simp only[JE,tm];kernel_rfl
def G6(a0:List pS):Option (md×Bool×Unit):=
 (Ku).bind λy1=>(Dk a0).bind λy2=>br (!y2.1) (some ((⟨([]:List Int),([]:List me)⟩:md),false,())) ((R6 ((a0,(),(),0,()),(((),(),()),((),(),()),()),y1.1.objects,y1.1.sessions,())).bind λe9=>some ((⟨e9.2.2.1,e9.2.2.2.1⟩:md),true,()))
def Nb[dp] :=C4 39 Tryz.f39 Ot [.st .machine,.b] (λx=>G6 x.1) [S6,Kz] [Si] (by kernel_rfl) λx=>by simp only[G6,tm];kernel_rfl
def Ff(a0:Op):Option (Bool×Unit):=
 some ((a0.kind==2),())
def NY[dp] :=C4 204 Tryz.f204 Uh [.b] (λx=>Ff x.1) [] [] (by kernel_rfl) λx=>by simp only[Ff,tm];kernel_rfl
def EX(a0:oQ)(a1:Int):Option (Bool×Unit):=
 (CC a0).bind λy1=>br y1.1 ((CM a1 0 4).bind λy2=>br y2.1 (iteP (0<=a1) ((a0.servers[a1.toNat]?).bind λx3=>(CT x3 a1).bind λy4=>some (y4.1,())) none) (some (false,()))) (some (false,()))
def KA[dp] :=C4 112 Tryz.f112 K1 [.b] (λx=>EX x.1 x.2.1) [CN,Ds,Hb] [] (by kernel_rfl) λx=>by simp only[EX,tm];kernel_rfl
abbrev Md:LX:=⟨⟨[Mv,O0,L7,NQ],[],GG,0,34⟩,[(.ext 0,⟨[O0,L7],[],GG,0,34⟩)],[],[0,1,5,6],[1,5]⟩
def Fm(s:Z2×Unit×List Int×Unit):Md.R:=
 br (decide (s.1.2.2.2.1< (s.1.1.length:Int))) (iteP (0<=s.1.2.2.2.1) ((s.1.1[s.1.2.2.2.1.toNat]?).bind λx5=>(F7 s.2.2.1 x5).bind λy6=>some (.inl ((s.1.1,s.1.2.1,(),(aaV .i64 (s.1.2.2.2.1+1)),()),(()),y6.1,()))) none) (some (.inr ((s.1.2.1,(),()),(()),s.2.2)))
def L0:=mh Fm
def Py[dp] :=FM Tryz.f192 [0] Md Fm [Ms] [] (by kernel_rfl) λs=>by simp only[Fm,tm];kernel_rfl
abbrev Me:LX:=⟨⟨[O0,L7,MT],[],GG,0,34⟩,[(.ext 2,⟨[L7],[],GG,0,34⟩)],[],[1,5,7],[5]⟩
def Fn(s:Zp×Unit×List Int×Unit):Me.R:=
 br (decide (s.1.2.2.1< (s.1.1.length:Int))) (iteP (0<=s.1.2.2.1) ((s.1.1[s.1.2.2.1.toNat]?).bind λx11=>(F7 s.2.2.1 x11).bind λy12=>some (.inl ((s.1.1,(),(aaV .i64 (s.1.2.2.1+1)),()),(()),y12.1,()))) none) (some (.inr (((),()),(()),s.2.2)))
def L3:=mh Fn
def Pz[dp] :=FM Tryz.f192 [1] Me Fn [Ms] [] (by kernel_rfl) λs=>by simp only[Fn,tm];kernel_rfl
def Gi(a0:List Int)(a1:List Int):Option ((List Int)×Unit):=
 (L0 ((a0,a1,(),0,()),(()),([]:List Int),())).bind λe7=>(L3 ((e7.1.1,(),0,()),(()),e7.2.2)).bind λe13=>some e13.2.2
def QQ[dp] :=C4 192 Tryz.f192 Tl Jt (λx=>Gi x.1 x.2.1) [] [Py,Pz] (by kernel_rfl) λx=>by simp only[Gi,tm];kernel_rfl
def C5(a0:mt):Option ((List Int)×Unit):=
 (CE a0).bind λy1=>br (!y1.1) (some (([]:List Int),())) ((Gi a0.replicas a0.witnesses).bind λy2=>some (y2.1,()))
def Hc[dp] :=C4 120 Tryz.f120 Va Jt (λx=>C5 x.1) [H4,QQ] [] (by kernel_rfl) λx=>by simp only[C5,tm];kernel_rfl
abbrev MN:LX:=⟨⟨[Mu,LC,VK,MT],[I5],GG,0,37⟩,[(.ext 0,⟨[LC],[],[],0,37⟩)],[],[2,5,6,7],[5]⟩
def HW(s:Xx×(L8×Unit)×List Int×Unit):MN.R:=
 br (decide (s.1.2.2.2.1< (s.2.2.1.length:Int))) (iteP (0<=s.1.2.2.2.1/\s.1.2.2.2.1< (s.2.2.1.length:Int)) ((s.2.2.1[s.1.2.2.2.1.toNat]?).bind λx17=>iteP (0<=x17) ((s.2.1.1.2.1[x17.toNat]?).bind λx18=>some (.inl (((),(if x18.version<s.1.2.1 then x18.version else s.1.2.1),(),(aaV .i64 (s.1.2.2.2.1+1)),()),s.2))) none) none) (some (.inr ((s.1.2.1,()),(()),(()))))
def Qa:=mh HW
def Qg[dp] :=FM Tryz.f50 [0] MN HW [] [] (by kernel_rfl) λs=>by simp only[HW,tm];kernel_rfl
def HH(a0:oQ)(a1:Int):Option (Int×Unit):=
 (EX a0 a1).bind λy1=>br (!y1.1) (some (0,())) (iteP (0<=a1) ((a0.servers[a1.toNat]?).bind λx2=>(C5 x2.config).bind λy3=>(Qa (((),2,(),0,()),((a0.now,a0.servers,a0.sides,a0.master.configs,a0.master.activated,a0.masterUp,a0.lease.epoch,a0.lease.holder,a0.lease.ends,a0.places,()),()),y3.1,())).bind λe19=>some e19.1) none)
def RV[dp] :=C4 50 Tryz.f50 K1 HS (λx=>HH x.1 x.2.1) [KA,Hc] [Qg] (by kernel_rfl) λx=>by simp only[HH,tm];kernel_rfl
def FR(a0:oQ)(a1:Int)(a2:Op):Option (oQ×Int×Unit):=
 (C7 a0).bind λy1=>(CC a0).bind λy2=>br (!y2.1) (some (y1.1,1,())) ((CM a1 0 4).bind λy3=>br (!y3.1) (some (y1.1,1,())) ((Dl a2).bind λy4=>br (!y4.1) (some (y1.1,1,())) (iteP (0<=a1) ((a0.servers[a1.toNat]?).bind λx5=>br (!x5.up) (some (y1.1,2,())) ((CT x5 a1).bind λy6=>br (!y6.1) (some (y1.1,3,())) ((LL x5.log a2.client a2.seq).bind λy7=>let j18:Option (oQ×Int×Unit):=(G6 x5.log).bind λy9=>(Jf y9.1 a2).bind λy10=>br (!y10.2.2.1) (some (y1.1,11,())) ((Ff a2).bind λy11=>let j17:Option (oQ×Int×Unit):=iteP (0<=a1/\a1< (y1.1.servers.length:Int)) ((y1.1.servers[a1.toNat]?).bind λx13=>(y1.1.servers[a1.toNat]?).bind λx14=>iteP ((0:Nat)=0) (iteP (x14.log.length<x13.log.length) none (iteP ((x14.log.take x13.log.length++([(⟨x5.epoch,a2⟩:pS)]:List pS)).length*56<=2 ^ 40) (iteP (0<=a1/\a1< (y1.1.servers.length:Int)) ((y1.1.servers[a1.toNat]?).bind λx15=>iteP (a1.toNat=a1.toNat) (some ((⟨y1.1.now,(y1.1.servers.set a1.toNat (⟨x15.up,x15.intact,x15.version,x15.epoch,x15.config,x15.first,(x14.log.take x13.log.length++([(⟨x5.epoch,a2⟩:pS)]:List pS)),x15.commit,x15.learned⟩:oU)),y1.1.sides,y1.1.master,y1.1.masterUp,y1.1.lease,y1.1.places⟩:oQ),0,())) none) none) none)) none) none;br y11.1 ((HH a0 a1).bind λy12=>br (decide (y12.1<2)) (some (y1.1,6,())) (br ((x5.log.length:Int)==16) (some (y1.1,5,())) (j17))) (br ((x5.log.length:Int)==16) (some (y1.1,5,())) (j17)));br (decide (y7.1≥0)) (iteP (0<=y7.1) ((x5.log[y7.1.toNat]?).bind λx8=>br (!((x8.op.client==a2.client)&&((x8.op.seq==a2.seq)&&((x8.op.kind==a2.kind)&&((x8.op.object==a2.object)&&((x8.op.old==a2.old)&&((x8.op.value==a2.value)&&true))))))) (some (y1.1,11,())) (br (decide (y7.1≥0)) (some (y1.1,0,())) (j18))) none) (br (decide (y7.1≥0)) (some (y1.1,0,())) (j18))))) none)))
def OO[dp] :=C4 268 Tryz.f268 Y2 MU (λx=>FR x.1 x.2.1 x.2.2.1) [DF,CN,Ds,J3,Hb,TZ,Nb,Pi,NY,RV] [] (by kernel_rfl) λx=>by simp only[FR,tm,-eq_self];kernel_rfl
def Ez(a0:List Int)(a1:Int)(a2:Int):Option (Bool×Unit):=
 (EP a0).bind λy1=>br y1.1 ((CM a1 0 4).bind λy2=>br y2.1 ((CM a2 0 4).bind λy3=>br y3.1 (iteP (0<=a1) ((a0[a1.toNat]?).bind λx4=>iteP (0<=a2) ((a0[a2.toNat]?).bind λx5=>some ((x4==x5),())) none) none) (some (false,()))) (some (false,()))) (some (false,()))
def Jn[dp] :=C4 97 Tryz.f97 Xo [.b] (λx=>Ez x.1 x.2.1 x.2.2.1) [Mr,Ds] [] (by kernel_rfl) λx=>by simp only[Ez,tm];kernel_rfl
def ET(a0:oQ)(a1:Int)(a2:Int):Option (Bool×Unit):=
 iteP (0<=a2) ((a0.servers[a2.toNat]?).bind λx1=>(Ez a0.sides a1 a2).bind λy2=>br y2.1 (br x1.up (iteP (0<=a1) ((a0.servers[a1.toNat]?).bind λx3=>br (x1.epoch==x3.epoch) (iteP (0<=a1) ((a0.servers[a1.toNat]?).bind λx4=>br (decide (x1.commit<=(x4.log.length:Int))) (iteP (0<=a1) ((a0.servers[a1.toNat]?).bind λx5=>(Ew x1.config x5.config).bind λy6=>some (y6.1,())) none) (some (false,()))) none) (some (false,()))) none) (some (false,()))) (some (false,()))) none
def QR[dp] :=C4 128 Tryz.f128 Q6 [.b] (λx=>ET x.1 x.2.1 x.2.2.1) [Jn,IZ] [] (by kernel_rfl) λx=>by simp only[ET,tm];kernel_rfl
def NC(a0:List pS):Option (Int×(List pS)×Unit):=
 (Dk a0).bind λy1=>br (!y1.1) (some (0,([]:List pS),())) (iteP (0<=(if (aaV .i64 ((a0.length:Int)-3))>0 then (aaV .i64 ((a0.length:Int)-3)) else 0)/\(if (aaV .i64 ((a0.length:Int)-3))>0 then (aaV .i64 ((a0.length:Int)-3)) else 0)<=(a0.length:Int)/\(a0.length:Int)<=(a0.length:Int)) ((DP ((a0.drop (if (aaV .i64 ((a0.length:Int)-3))>0 then (aaV .i64 ((a0.length:Int)-3)) else 0).toNat).take ((a0.length:Int).toNat-(if (aaV .i64 ((a0.length:Int)-3))>0 then (aaV .i64 ((a0.length:Int)-3)) else 0).toNat))).bind λy2=>some ((if (aaV .i64 ((a0.length:Int)-3))>0 then (aaV .i64 ((a0.length:Int)-3)) else 0),y2.1,())) none)
def Wp[dp] :=C4 197 Tryz.f197 Ot XC (λx=>NC x.1) [Kz,He] [] (by kernel_rfl) λx=>by simp only[NC,tm];kernel_rfl
def M6(a0:List pS):Option (Int×(List pS)×Unit):=
 (NC a0).bind λy1=>some (y1.1,y1.2.1,())
def Xf[dp] :=C4 129 Tryz.f129 Ot XC (λx=>M6 x.1) [Wp] [] (by kernel_rfl) λx=>by simp only[M6,tm];kernel_rfl
def G5(a0:oQ)(a1:Int)(a2:Int):Option (oQ×Bool×Unit):=
 (C7 a0).bind λy1=>(EX a0 a1).bind λy2=>br (!y2.1) (some (y1.1,false,())) (iteP (0<=a1) ((a0.servers[a1.toNat]?).bind λx3=>(C5 x3.config).bind λy4=>(Dj y4.1 a2).bind λy5=>br (!y5.1) (some (y1.1,false,())) ((ET a0 a1 a2).bind λy6=>br (!y6.1) (some (y1.1,false,())) (iteP (0<=a1) ((a0.servers[a1.toNat]?).bind λx7=>iteP (0<=a1) ((a0.servers[a1.toNat]?).bind λx8=>(Dm x8.config a2).bind λy9=>br (y9.1==3) ((M6 x7.log).bind λy10=>iteP (0<=a2/\a2< (y1.1.servers.length:Int)) (iteP (0<=a2/\a2< (y1.1.servers.length:Int)) ((y1.1.servers[a2.toNat]?).bind λx11=>let z12:=y1.1.servers.set a2.toNat (⟨x11.up,x11.intact,x11.version,x11.epoch,x11.config,y10.1,x11.log,x11.commit,x11.learned⟩:oU);(z12[a2.toNat]?).bind λx13=>some ((⟨y1.1.now,(z12.set a2.toNat (⟨x13.up,x13.intact,x13.version,x13.epoch,x13.config,x13.first,y10.2.1,x13.commit,x13.learned⟩:oU)),y1.1.sides,y1.1.master,y1.1.masterUp,y1.1.lease,y1.1.places⟩:oQ),true,())) none) none) ((DP x7.log).bind λy15=>iteP (0<=a2/\a2< (y1.1.servers.length:Int)) ((y1.1.servers[a2.toNat]?).bind λx16=>some ((⟨y1.1.now,(y1.1.servers.set a2.toNat (⟨x16.up,x16.intact,x16.version,x16.epoch,x16.config,x16.first,y15.1,x16.commit,x16.learned⟩:oU)),y1.1.sides,y1.1.master,y1.1.masterUp,y1.1.lease,y1.1.places⟩:oQ),true,())) none)) none) none))) none)
def QO[dp] :=C4 54 Tryz.f54 Q6 [.st .cluster,.b] (λx=>G5 x.1 x.2.1 x.2.2.1) [DF,KA,Hc,Fi,QR,LW,Xf,He] [] (by kernel_rfl) λx=>by simp only[G5,tm];kernel_rfl
abbrev I7:LX:=⟨⟨[KC,N3,MI,Xt,Uj,(9,.cl (.int .i64))],[KD,Um],Yy,0,74⟩,[(.ext 0,⟨[KC,N3,MI,Xt,Uj],[KD,Um],Yy,0,74⟩)],[],[1,4,6,7,8,9],[1,4,6,7,8]⟩
def GU(s:Xy×(Lh×Lh×Unit)×List Int×List oU×List Int×List mt×List sV×Unit):I7.R:=
 br (decide (s.1.2.2.2.2.2.1< (s.2.2.1.length:Int))) (iteP (0<=s.1.2.2.2.2.2.1/\s.1.2.2.2.2.2.1< (s.2.2.1.length:Int)) ((s.2.2.1[s.1.2.2.2.2.2.1.toNat]?).bind λx25=>(G5 (⟨s.2.1.2.1.1,s.2.2.2.1,s.2.2.2.2.1,(⟨s.2.2.2.2.2.1,s.2.1.2.1.2.2.2.2.1⟩:jr),s.2.1.2.1.2.2.2.2.2.1,(⟨s.2.1.2.1.2.2.2.2.2.2.1,s.2.1.2.1.2.2.2.2.2.2.2.1,s.2.1.2.1.2.2.2.2.2.2.2.2.1⟩:sS),s.2.2.2.2.2.2.1⟩:oQ) s.1.1 x25).bind λy26=>let j28 (p27:Bool):I7.R:=some (.inl ((s.1.1,(),(),(),p27,(aaV .i64 (s.1.2.2.2.2.2.1+1)),()),(s.2.1.1,(y26.1.now,(),(),(),y26.1.master.activated,y26.1.masterUp,y26.1.lease.epoch,y26.1.lease.holder,y26.1.lease.ends,(),()),()),s.2.2.1,y26.1.servers,y26.1.sides,y26.1.master.configs,y26.1.places,()));br s.1.2.2.2.2.1 (j28 y26.2.1) (j28 false)) none) (some (.inr ((s.1.1,(),(),(),s.1.2.2.2.2.1,()),s.2)))
def OY:=mh GU
def O9[dp] :=FM Tryz.f46 [0] I7 GU [QO] [] (by kernel_rfl) λs=>by simp only[GU,tm];kernel_rfl
abbrev K5:LX:=⟨⟨[KC,N3,MI,Xt,Uj,Ni],[KD,Um],Yy,0,74⟩,[(.ext 2,⟨[N3,MI,Uj],[KD,Vf],XJ,0,74⟩)],[],[1,4,6,7,8,12],[4,6,8]⟩
def Gm(s:Xy×(Lh×Lh×Unit)×List Int×List oU×List Int×List mt×List sV×Unit):K5.R:=
 br (decide (s.1.2.2.2.2.2.1< (s.2.2.1.length:Int))) (br s.1.2.2.2.2.1 (iteP (0<=s.1.2.2.2.2.2.1/\s.1.2.2.2.2.2.1< (s.2.2.1.length:Int)) ((s.2.2.1[s.1.2.2.2.2.2.1.toNat]?).bind λx50=>iteP (0<=s.1.1/\s.1.1< (s.2.2.2.1.length:Int)) ((s.2.2.2.1[s.1.1.toNat]?).bind λx51=>iteP (0<=x50/\x50< (s.2.2.2.1.length:Int)) ((s.2.2.2.1[x50.toNat]?).bind λx52=>some (.inl ((s.1.1,(),(),(),s.1.2.2.2.2.1,(aaV .i64 (s.1.2.2.2.2.2.1+1)),()),s.2.1,s.2.2.1,(s.2.2.2.1.set x50.toNat (⟨x52.up,x52.intact,x52.version,x52.epoch,x52.config,x52.first,x52.log,((x51.log.length:Nat):Int),x52.learned⟩:oU)),s.2.2.2.2))) none) none) none) (some (.inr (((),(),s.1.2.2.2.2.1,()),s.2.1,s.2.2.2)))) (some (.inr (((),(),s.1.2.2.2.2.1,()),s.2.1,s.2.2.2)))
def Oq:=mh Gm
def Ox[dp] :=FM Tryz.f46 [1] K5 Gm [] [] (by kernel_rfl) λs=>by simp only[Gm,tm];kernel_rfl
def FJ(a0:oQ)(a1:Int):Option (oQ×Bool×Unit):=
 (C7 a0).bind λy1=>(EX a0 a1).bind λy2=>br (!y2.1) (some (y1.1,false,())) (iteP (0<=a1) ((a0.servers[a1.toNat]?).bind λx3=>(C5 x3.config).bind λy4=>(OY ((a1,(),(),(),true,0,()),((0,(),(),(),0,0,0,0,0,(),()),(y1.1.now,(),(),(),y1.1.master.activated,y1.1.masterUp,y1.1.lease.epoch,y1.1.lease.holder,y1.1.lease.ends,(),()),()),y4.1,y1.1.servers,y1.1.sides,y1.1.master.configs,y1.1.places,())).bind λe29=>(Oq ((e29.1.1,(),(),(),e29.1.2.2.2.2.1,0,()),e29.2)).bind λe54=>some ((⟨e54.2.1.2.1.1,e54.2.2.1,e54.2.2.2.1,(⟨e54.2.2.2.2.1,e54.2.1.2.1.2.2.2.2.1⟩:jr),e54.2.1.2.1.2.2.2.2.2.1,(⟨e54.2.1.2.1.2.2.2.2.2.2.1,e54.2.1.2.1.2.2.2.2.2.2.2.1,e54.2.1.2.1.2.2.2.2.2.2.2.2.1⟩:sS),e54.2.2.2.2.2.1⟩:oQ),e54.1.2.2)) none)
def MA[dp] :=C4 46 Tryz.f46 K1 [.st .cluster,.b] (λx=>FJ x.1 x.2.1) [DF,KA,Hc] [O9,Ox] (by kernel_rfl) λx=>by simp only[FJ,tm];kernel_rfl
def Ji(a0:List pS)(a1:Int):Option (Result×Bool×Unit):=
 (Dk a0).bind λy1=>br (!y1.1) (some ((⟨false,0⟩:Result),false,())) ((CM a1 0 (aaV .i64 ((a0.length:Int)-1))).bind λy2=>br (!y2.1) (some ((⟨false,0⟩:Result),false,())) (iteP (0<=(0:Int)/\(0:Int)<=a1/\a1<=(a0.length:Int)) ((G6 ((a0.drop (0:Int).toNat).take (a1.toNat-(0:Int).toNat))).bind λy3=>iteP (0<=a1) ((a0[a1.toNat]?).bind λx4=>(Jf y3.1 x4.op).bind λy5=>some (y5.2.1,y5.2.2.1,())) none) none))
def UW[dp] :=C4 270 Tryz.f270 Xp [.st .result,.b] (λx=>Ji x.1 x.2.1) [Kz,Ds,Nb,Pi] [] (by kernel_rfl) λx=>by simp only[Ji,tm];kernel_rfl
def KL(a0:oQ)(a1:Int)(a2:Op):Option (oQ×vd×Unit):=
 (FR a0 a1 a2).bind λy1=>br (!(y1.2.1==0)) (some (y1.1,(⟨y1.2.1,(⟨false,0⟩:Result),0⟩:vd),())) (iteP (0<=a1/\a1< (y1.1.servers.length:Int)) ((y1.1.servers[a1.toNat]?).bind λx2=>(y1.1.servers[a1.toNat]?).bind λx3=>iteP (0+x2.log.length<=x3.log.length) ((LL ((x3.log.drop 0).take x2.log.length) a2.client a2.seq).bind λy4=>iteP (0<=a1/\a1< (y1.1.servers.length:Int)) ((y1.1.servers[a1.toNat]?).bind λx5=>br (decide (y4.1≥x5.commit)) ((FJ y1.1 a1).bind λy6=>br (!y6.2.1) (some (y6.1,(⟨4,(⟨false,0⟩:Result),0⟩:vd),())) (iteP (0<=a1/\a1< (y6.1.servers.length:Int)) ((y6.1.servers[a1.toNat]?).bind λx20=>(y6.1.servers[a1.toNat]?).bind λx21=>iteP (0+x20.log.length<=x21.log.length) ((Ji ((x21.log.drop 0).take x20.log.length) y4.1).bind λy22=>some (y6.1,(⟨0,y22.1,y4.1⟩:vd),())) none) none)) (iteP (0<=a1/\a1< (y1.1.servers.length:Int)) ((y1.1.servers[a1.toNat]?).bind λx23=>(y1.1.servers[a1.toNat]?).bind λx24=>iteP (0+x23.log.length<=x24.log.length) ((Ji ((x24.log.drop 0).take x23.log.length) y4.1).bind λy25=>some (y1.1,(⟨0,y25.1,y4.1⟩:vd),())) none) none)) none) none) none)
def US[dp] :=C4 251 Tryz.f251 Y2 Zv (λx=>KL x.1 x.2.1 x.2.2.1) [OO,TZ,MA,UW] [] (by kernel_rfl) λx=>by simp only[KL,tm];kernel_rfl
def Io(a0:oQ)(a1:Int):Option (Int×Unit):=
 (CC a0).bind λy1=>br (!y1.1) (some (1,())) ((CM a1 0 4).bind λy2=>br (!y2.1) (some (1,())) (iteP (0<=a1) ((a0.servers[a1.toNat]?).bind λx3=>br (!x3.up) (some (2,())) (some (0,()))) none))
def PL[dp] :=C4 108 Tryz.f108 K1 HS (λx=>Io x.1 x.2.1) [CN,Ds] [] (by kernel_rfl) λx=>by simp only[Io,tm];kernel_rfl
def IL(a0:sS)(a1:Int)(a2:Int)(a3:Int):Option (Bool×Unit):=
 (ES a0).bind λy1=>br y1.1 ((CM a3 0 999).bind λy2=>br y2.1 (br (decide (a0.ends>0)) (br (a0.epoch==a1) (br (a0.holder==a2) (some ((decide ((aaV .i64 (a3+3))<a0.ends)),())) (some (false,()))) (some (false,()))) (some (false,()))) (some (false,()))) (some (false,()))
def SX[dp] :=C4 113 Tryz.f113 [.ty (.st .lease),.ty (.i .i64),.ty (.i .i64),.ty (.i .i64)] [.b] (λx=>IL x.1 x.2.1 x.2.2.1 x.2.2.2.1) [LU,Ds] [] (by kernel_rfl) λx=>by simp only[IL,tm];kernel_rfl
def Gf(a0:oQ)(a1:Int):Option (Bool×Unit):=
 (EX a0 a1).bind λy1=>br y1.1 (iteP (0<=a1) ((a0.servers[a1.toNat]?).bind λx2=>(IL a0.lease x2.config.epoch a1 a0.now).bind λy3=>some (y3.1,())) none) (some (false,()))
def Pj[dp] :=C4 38 Tryz.f38 K1 [.b] (λx=>Gf x.1 x.2.1) [KA,SX] [] (by kernel_rfl) λx=>by simp only[Gf,tm];kernel_rfl
def Df(a0:oU):Option ((List pS)×Unit):=
 (CM a0.commit a0.first (aaV .i64 (a0.first+(a0.log.length:Int)))).bind λy1=>br (!y1.1) (some (([]:List pS),())) (br (decide (a0.first<0)) (some (([]:List pS),())) (iteP (0<=(0:Int)/\(0:Int)<=(aaV .i64 (a0.commit-a0.first))/\(aaV .i64 (a0.commit-a0.first))<=(a0.log.length:Int)) ((DP ((a0.log.drop (0:Int).toNat).take ((aaV .i64 (a0.commit-a0.first)).toNat-(0:Int).toNat))).bind λy2=>some (y2.1,())) none))
def H3[dp] :=C4 40 Tryz.f40 SA Tn (λx=>Df x.1) [Ds,He] [] (by kernel_rfl) λx=>by simp only[Df,tm];kernel_rfl
def IR(a0:md)(a1:Int):Option (Int×Bool×Unit):=
 (Ep a0).bind λy1=>br (!y1.1) (some (0,false,())) ((CM a1 0 2).bind λy2=>br (!y2.1) (some (0,false,())) (iteP (0<=a1) ((a0.objects[a1.toNat]?).bind λx3=>some (x3,true,())) none))
def S7[dp] :=C4 180 Tryz.f180 Y1 [.i .i64,.b] (λx=>IR x.1 x.2.1) [LV,Ds] [] (by kernel_rfl) λx=>by simp only[IR,tm];kernel_rfl
def KR(a0:oU)(a1:Int):Option (vd×Unit):=
 (Df a0).bind λy1=>(G6 y1.1).bind λy2=>(IR y2.1 a1).bind λy3=>some ((⟨0,(⟨true,y3.1⟩:Result),a0.commit⟩:vd),())
def UZ[dp] :=C4 110 Tryz.f110 Tm [.st .reply] (λx=>KR x.1 x.2.1) [H3,Nb,S7] [] (by kernel_rfl) λx=>by simp only[KR,tm];kernel_rfl
def JT(a0:oQ)(a1:Int)(a2:Int):Option (vd×Unit):=
 (Io a0 a1).bind λy1=>br (!(y1.1==0)) (some ((⟨y1.1,(⟨false,0⟩:Result),0⟩:vd),())) ((CM a2 0 2).bind λy2=>br (!y2.1) (some ((⟨1,(⟨false,0⟩:Result),0⟩:vd),())) (iteP (0<=a1) ((a0.servers[a1.toNat]?).bind λx3=>(CT x3 a1).bind λy4=>br (!y4.1) (some ((⟨3,(⟨false,0⟩:Result),0⟩:vd),())) ((Gf a0 a1).bind λy5=>br (!y5.1) (some ((⟨7,(⟨false,0⟩:Result),0⟩:vd),())) (iteP (0<=a1) ((a0.servers[a1.toNat]?).bind λx6=>(KR x6 a2).bind λy7=>some (y7.1,())) none))) none))
def T2[dp] :=C4 36 Tryz.f36 Q6 [.st .reply] (λx=>JT x.1 x.2.1 x.2.2.1) [PL,Ds,Hb,Pj,UZ] [] (by kernel_rfl) λx=>by simp only[JT,tm];kernel_rfl
def Jj(a0:sS):Option (Int×Unit):=
 (ES a0).bind λy1=>br (!y1.1) (some (0,())) (br (a0.ends==0) (some (0,())) (some ((aaV .i64 (a0.ends+3)),())))
def QP[dp] :=C4 145 Tryz.f145 VI HS (λx=>Jj x.1) [LU] [] (by kernel_rfl) λx=>by simp only[Jj,tm];kernel_rfl
def Fh(a0:sS)(a1:Int):Option (Bool×Unit):=
 (ES a0).bind λy1=>br y1.1 ((CM a1 0 999).bind λy2=>br y2.1 ((Jj a0).bind λy3=>some ((decide (a1≥y3.1)),())) (some (false,()))) (some (false,()))
def Lu[dp] :=C4 66 Tryz.f66 Y3 [.b] (λx=>Fh x.1 x.2.1) [LU,Ds,QP] [] (by kernel_rfl) λx=>by simp only[Fh,tm];kernel_rfl
def IK(a0:sS)(a1:Int)(a2:Int)(a3:Int)(a4:Int):Option (sS×Bool×Unit):=
 br (a0.epoch==a1) ((ES a0).bind λy1=>br (!y1.1) (some (a0,false,())) ((CM a1 1 20).bind λy2=>br (!y2.1) (some (a0,false,())) ((CM a2 0 4).bind λy3=>br (!y3.1) (some (a0,false,())) ((CM a3 0 999).bind λy4=>br (!y4.1) (some (a0,false,())) ((CM a4 1 50).bind λy5=>br (!y5.1) (some (a0,false,())) ((Fh a0 a3).bind λy6=>br (!y6.1) (br (!(a0.holder==a2)) (some (a0,false,())) (br (a0.holder==a2) (some ((⟨a1,a2,(if a0.ends>(aaV .i64 (a3+a4)) then a0.ends else (aaV .i64 (a3+a4)))⟩:sS),true,())) (some ((⟨a1,a2,(aaV .i64 (a3+a4))⟩:sS),true,())))) (br (a0.holder==a2) (some ((⟨a1,a2,(if a0.ends>(aaV .i64 (a3+a4)) then a0.ends else (aaV .i64 (a3+a4)))⟩:sS),true,())) (some ((⟨a1,a2,(aaV .i64 (a3+a4))⟩:sS),true,()))))))))) ((ES a0).bind λy10=>br (!y10.1) (some (a0,false,())) ((CM a1 1 20).bind λy11=>br (!y11.1) (some (a0,false,())) ((CM a2 0 4).bind λy12=>br (!y12.1) (some (a0,false,())) ((CM a3 0 999).bind λy13=>br (!y13.1) (some (a0,false,())) ((CM a4 1 50).bind λy14=>br (!y14.1) (some (a0,false,())) ((Fh a0 a3).bind λy15=>br (!y15.1) (br (!false) (some (a0,false,())) (some ((⟨a1,a2,(aaV .i64 (a3+a4))⟩:sS),true,()))) (some ((⟨a1,a2,(aaV .i64 (a3+a4))⟩:sS),true,()))))))))
def SW[dp] :=C4 292 Tryz.f292 [.ty (.st .lease),.ty (.i .i64),.ty (.i .i64),.ty (.i .i64),.ty (.i .i64)] [.st .lease,.b] (λx=>IK x.1 x.2.1 x.2.2.1 x.2.2.2.1 x.2.2.2.2.1) [LU,Ds,Lu] [] (by kernel_rfl) λx=>by simp only[IK,tm];kernel_rfl
def Hs(a0:oQ)(a1:Int)(a2:Int):Option (oQ×Int×Unit):=
 (C7 a0).bind λy1=>(Io a0 a1).bind λy2=>br (!(y2.1==0)) (some (y1.1,y2.1,())) (iteP (0<=a1) ((a0.servers[a1.toNat]?).bind λx3=>(CT x3 a1).bind λy4=>br (!y4.1) (some (y1.1,3,())) (br (decide ((aaV .i64 (a0.masterUp*2))<=3)) (some (y1.1,8,())) (iteP (0<=a1) ((a0.sides[a1.toNat]?).bind λx5=>br (!(x5==0)) (some (y1.1,8,())) (br (!(x3.config.epoch==(a0.master.configs.length:Int))) (some (y1.1,11,())) ((IK a0.lease x3.config.epoch a1 a0.now a2).bind λy6=>br (!y6.2.1) (some (y1.1,7,())) (some ((⟨y1.1.now,y1.1.servers,y1.1.sides,y1.1.master,y1.1.masterUp,y6.1,y1.1.places⟩:oQ),0,()))))) none))) none)
def OT[dp] :=C4 271 Tryz.f271 Q6 MU (λx=>Hs x.1 x.2.1 x.2.2.1) [DF,PL,Hb,SW] [] (by kernel_rfl) λx=>by simp only[Hs,tm];kernel_rfl
abbrev Ob:LX:=⟨⟨[HQ,SD,Lf],[I5],GG,0,28⟩,[(.ext 0,⟨[SD],[],GG,0,28⟩)],[],[1,3,4],[3]⟩
def F0(s:Vc×(L8×Unit)×List Int×Unit):Ob.R:=
 br (decide (s.1.2.2.1< (s.2.1.1.2.1.length:Int))) ((CC (⟨s.2.1.1.1,s.2.1.1.2.1,s.2.1.1.2.2.1,(⟨s.2.1.1.2.2.2.1,s.2.1.1.2.2.2.2.1⟩:jr),s.2.1.1.2.2.2.2.2.1,(⟨s.2.1.1.2.2.2.2.2.2.1,s.2.1.1.2.2.2.2.2.2.2.1,s.2.1.1.2.2.2.2.2.2.2.2.1⟩:sS),s.2.1.1.2.2.2.2.2.2.2.2.2.1⟩:oQ)).bind λy13=>br y13.1 (iteP (0<=s.1.2.2.1) ((s.2.1.1.2.1[s.1.2.2.1.toNat]?).bind λx14=>br x14.up (iteP ((s.2.2.1++([s.1.2.2.1]:List Int)).length*8<=2 ^ 40) (some (.inl (((),(),(aaV .i64 (s.1.2.2.1+1)),()),s.2.1,(s.2.2.1++([s.1.2.2.1]:List Int)),()))) none) (some (.inl (((),(),(aaV .i64 (s.1.2.2.1+1)),()),s.2)))) none) (some (.inr (((),()),(()),s.2.2)))) (some (.inr (((),()),(()),s.2.2)))
def LA:=mh F0
def Sl[dp] :=FM Tryz.f165 [0] Ob F0 [CN] [] (by kernel_rfl) λs=>by simp only[F0,tm];kernel_rfl
def G7(a0:oQ):Option ((List Int)×Unit):=
 (LA (((),(),0,()),((a0.now,a0.servers,a0.sides,a0.master.configs,a0.master.activated,a0.masterUp,a0.lease.epoch,a0.lease.holder,a0.lease.ends,a0.places,()),()),([]:List Int),())).bind λe16=>some e16.2.2
def T7[dp] :=C4 165 Tryz.f165 L5 Jt (λx=>G7 x.1) [] [Sl] (by kernel_rfl) λx=>by simp only[G7,tm];kernel_rfl
abbrev Ns:LX:=⟨⟨[Mv,SD,Lf],[],GG,0,26⟩,[(.ext 0,⟨[SD],[],GG,0,26⟩)],[],[0,3,4],[3]⟩
def Fs(s:Zp×Unit×List Int×Unit):Ns.R:=
 br (decide (s.1.2.2.1< (s.1.1.length:Int))) ((EP s.1.1).bind λy4=>br y4.1 (iteP (0<=s.1.2.2.1) ((s.1.1[s.1.2.2.1.toNat]?).bind λx5=>br (x5==0) (iteP ((s.2.2.1++([s.1.2.2.1]:List Int)).length*8<=2 ^ 40) (some (.inl ((s.1.1,(),(aaV .i64 (s.1.2.2.1+1)),()),(()),(s.2.2.1++([s.1.2.2.1]:List Int)),()))) none) (some (.inl ((s.1.1,(),(aaV .i64 (s.1.2.2.1+1)),()),(()),s.2.2)))) none) (some (.inr (((),()),(()),s.2.2)))) (some (.inr (((),()),(()),s.2.2)))
def KX:=mh Fs
def Rt[dp] :=FM Tryz.f166 [0] Ns Fs [Mr] [] (by kernel_rfl) λs=>by simp only[Fs,tm];kernel_rfl
def Gs(a0:List Int):Option ((List Int)×Unit):=
 (KX ((a0,(),0,()),(()),([]:List Int),())).bind λe7=>some e7.2.2
def SZ[dp] :=C4 166 Tryz.f166 U9 Jt (λx=>Gs x.1) [] [Rt] (by kernel_rfl) λx=>by simp only[Gs,tm];kernel_rfl
def H8(a0:oQ):Option ((List Int)×Unit):=
 (G7 a0).bind λy1=>(Gs a0.sides).bind λy2=>(EF y1.1 y2.1).bind λy3=>some (y3.1,())
def QS[dp] :=C4 81 Tryz.f81 L5 Jt (λx=>H8 x.1) [T7,SZ,J9] [] (by kernel_rfl) λx=>by simp only[H8,tm];kernel_rfl
def CK(a0:jr):Option (mt×Bool×Unit):=
 (DG a0 a0.activated).bind λy1=>some (y1.1,y1.2.1,())
def D4[dp] :=C4 78 Tryz.f78 Vb Wx (λx=>CK x.1) [Ol] [] (by kernel_rfl) λx=>by simp only[CK,tm];kernel_rfl
abbrev Lc:LX:=⟨⟨[Mv,O0,L7,NQ],[],GG,0,28⟩,[(.ext 0,⟨[L7],[],GG,0,28⟩)],[],[0,1,5,6],[5]⟩
def EO(s:Z2×Unit×List Int×Unit):Lc.R:=
 br (decide (s.1.2.2.2.1< (s.1.1.length:Int))) (iteP (0<=s.1.2.2.2.1) ((s.1.1[s.1.2.2.2.1.toNat]?).bind λx5=>(Dj s.1.2.1 x5).bind λy6=>br (!y6.1) (iteP (0<=s.1.2.2.2.1) ((s.1.1[s.1.2.2.2.1.toNat]?).bind λx7=>(F7 s.2.2.1 x7).bind λy8=>some (.inl ((s.1.1,s.1.2.1,(),(aaV .i64 (s.1.2.2.2.1+1)),()),(()),y8.1,()))) none) (some (.inl ((s.1.1,s.1.2.1,(),(aaV .i64 (s.1.2.2.2.1+1)),()),(()),s.2.2)))) none) (some (.inr (((),()),(()),s.2.2)))
def KY:=mh EO
def OC[dp] :=FM Tryz.f254 [0] Lc EO [Fi,Ms] [] (by kernel_rfl) λs=>by simp only[EO,tm];kernel_rfl
def DM(a0:List Int)(a1:List Int):Option ((List Int)×Unit):=
 (KY ((a0,a1,(),0,()),(()),([]:List Int),())).bind λe10=>some e10.2.2
def Jo[dp] :=C4 254 Tryz.f254 Tl Jt (λx=>DM x.1 x.2.1) [] [OC] (by kernel_rfl) λx=>by simp only[DM,tm];kernel_rfl
abbrev PR:LX:=⟨⟨[PP,O0,L7,NQ],[],GG,0,33⟩,[(.ext 0,⟨[L7],[],GG,0,33⟩)],[],[0,1,5,6],[5]⟩
def Li(s: (List sV×List Int×Unit×Int×Unit)×Unit×List Int×Unit):PR.R:=
 br (decide (s.1.2.2.2.1< (s.1.2.1.length:Int))) ((Di s.1.1).bind λy5=>br y5.1 ((D6 s.1.2.1).bind λy6=>br y6.1 (iteP (0<=s.1.2.2.2.1) ((s.1.2.1[s.1.2.2.2.1.toNat]?).bind λx7=>iteP (0<=x7) ((s.1.1[x7.toNat]?).bind λx8=>(F7 s.2.2.1 x8.rack).bind λy9=>some (.inl ((s.1.1,s.1.2.1,(),(aaV .i64 (s.1.2.2.2.1+1)),()),(()),y9.1,()))) none) none) (some (.inr (((),()),(()),s.2.2)))) (some (.inr (((),()),(()),s.2.2)))) (some (.inr (((),()),(()),s.2.2)))
def Ue:=mh Li
def Uq[dp] :=FM Tryz.f302 [0] PR Li [J2,Ky,Ms] [] (by kernel_rfl) λs=>by simp only[Li,tm];kernel_rfl
def LN(a0:List sV)(a1:List Int):Option ((List Int)×Unit):=
 (Ue ((a0,a1,(),0,()),(()),([]:List Int),())).bind λe10=>some e10.2.2
def Wr[dp] :=C4 302 Tryz.f302 [.ty (.ls (.st .place)),.ty (.ls (.i .i64))] Jt (λx=>LN x.1 x.2.1) [] [Uq] (by kernel_rfl) λx=>by simp only[LN,tm];kernel_rfl
def LM(a0:List sV)(a1:Int):Option (Bool×Unit):=
 (Di a0).bind λy1=>br y1.1 ((CM a1 0 4).bind λy2=>br y2.1 (iteP (0<=a1) ((a0[a1.toNat]?).bind λx3=>iteP (0<=a1) ((a0[a1.toNat]?).bind λx4=>some ((decide (x3.load<x4.capacity)),())) none) none) (some (false,()))) (some (false,()))
def Wq[dp] :=C4 303 Tryz.f303 [.ty (.ls (.st .place)),.ty (.i .i64)] [.b] (λx=>LM x.1 x.2.1) [J2,Ds] [] (by kernel_rfl) λx=>by simp only[LM,tm];kernel_rfl
def KT(a0:List sV)(a1:List Int)(a2:Int)(a3:Int):Option (Bool×Unit):=
 iteP (0<=a2) ((a0[a2.toNat]?).bind λx1=>(Dj a1 x1.rack).bind λy2=>iteP (0<=a3) ((a0[a3.toNat]?).bind λx3=>(Dj a1 x3.rack).bind λy4=>br (!(y2.1==y4.1)) (some (y4.1,())) (iteP (0<=a2) ((a0[a2.toNat]?).bind λx5=>iteP (0<=a3) ((a0[a3.toNat]?).bind λx6=>some ((decide (x5.load<x6.load)),())) none) none)) none) none
def U1[dp] :=C4 304 Tryz.f304 [.ty (.ls (.st .place)),.ty (.ls (.i .i64)),.ty (.i .i64),.ty (.i .i64)] [.b] (λx=>KT x.1 x.2.1 x.2.2.1 x.2.2.2.1) [Fi] [] (by kernel_rfl) λx=>by simp only[KT,tm];kernel_rfl
abbrev LH:LX:=⟨⟨[PP,O0,(2,.cl (.ro (.i .i64))),MT,VL,(9,.cl (.int .i64))],[],GG,0,46⟩,[(.ext 0,⟨[MT],[],[],0,46⟩)],[],[0,1,2,7,8,9],[7]⟩
def JD(s: (List sV×List Int×List Int×Int×Unit×Int×Unit)×Unit×List Int×Unit):LH.R:=
 br (decide (s.1.2.2.2.2.2.1<5)) ((D6 s.1.2.1).bind λy8=>br y8.1 ((LM s.1.1 s.1.2.2.2.2.2.1).bind λy9=>let j14 (p13:Int):LH.R:=some (.inl ((s.1.1,s.1.2.1,s.1.2.2.1,p13,(),(aaV .i64 (s.1.2.2.2.2.2.1+1)),()),(()),s.2.2));br (!y9.1) (j14 s.1.2.2.2.1) ((Dj s.1.2.1 s.1.2.2.2.2.2.1).bind λy10=>br y10.1 (j14 s.1.2.2.2.1) ((Dj s.1.2.2.1 s.1.2.2.2.2.2.1).bind λy11=>br y11.1 (j14 s.1.2.2.2.1) (br (decide (s.1.2.2.2.1<0)) (j14 s.1.2.2.2.2.2.1) ((KT s.1.1 s.2.2.1 s.1.2.2.2.2.2.1 s.1.2.2.2.1).bind λy12=>br y12.1 (j14 s.1.2.2.2.2.2.1) (j14 s.1.2.2.2.1)))))) (some (.inr ((s.1.2.2.2.1,()),(()),(()))))) (some (.inr ((s.1.2.2.2.1,()),(()),(()))))
def R5:=mh JD
def Sg[dp] :=FM Tryz.f294 [0] LH JD [Ky,Wq,Fi,U1] [] (by kernel_rfl) λs=>by simp only[JD,tm];kernel_rfl
def Il(a0:List sV)(a1:List Int)(a2:List Int):Option (Int×Unit):=
 (LN a0 a1).bind λy1=>(R5 ((a0,a1,a2,(-1),(),0,()),(()),y1.1,())).bind λe15=>some e15.1
def PK[dp] :=C4 294 Tryz.f294 [.ty (.ls (.st .place)),.ty (.ls (.i .i64)),.ty (.ls (.i .i64))] HS (λx=>Il x.1 x.2.1 x.2.2.1) [Wr] [Sg] (by kernel_rfl) λx=>by simp only[Il,tm];kernel_rfl
abbrev MQ:LX:=⟨⟨[PP,K3,Xu,(10,.cl (.own 1 (.i .i64)))],[],Yz,0,52⟩,[(.ret,⟨[VL,Xu],[],GG,0,52⟩),(.ext 0,⟨[(8,.cl (.dead)),Xu],[],GG,0,52⟩)],[],[0,3,9,10],[8,9]⟩
def HX(s: (List sV×Int×Unit×Unit×Unit)×Unit×List Int×List Int×Unit):MQ.R:=
 br (decide ((s.2.2.1.length:Int)<s.1.2.1)) ((Il s.1.1 s.2.2.1 s.2.2.2.1).bind λy11=>br (decide (y11.1<0)) (some (.inr (.inl (((),(),()),(()),s.2.2.1,())))) ((F7 s.2.2.1 y11.1).bind λy12=>some (.inl (s.1,(()),y12.1,s.2.2.2)))) (some (.inr (.inr (((),(),()),(()),s.2.2.1,()))))
def Qb:=mh HX
def Qj[dp] :=FM Tryz.f293 [0] MQ HX [PK,Ms] [] (by kernel_rfl) λs=>by simp only[HX,tm];kernel_rfl
def HI(a0:List sV)(a1:List Int)(a2:List Int)(a3:Int):Option ((List Int)×Unit):=
 (EF a1 a2).bind λy1=>(DM ([0,1,2,3,4]:List Int) a2).bind λy2=>(Di a0).bind λy3=>br (!y3.1) (some (([]:List Int),())) ((D6 a1).bind λy4=>br (!y4.1) (some (([]:List Int),())) ((D6 a2).bind λy5=>br (!y5.1) (some (([]:List Int),())) ((CM a3 0 5).bind λy6=>br (!y6.1) (some (([]:List Int),())) ((Qb ((a0,a3,(),(),()),(()),y1.1,y2.1,())).bind λe13=>Sum.elim (λe13_0=>some e13_0.2.2) (λe13_1=>some e13_1.2.2) e13))))
def RY[dp] :=C4 293 Tryz.f293 [.ty (.ls (.st .place)),.ty (.ls (.i .i64)),.ty (.ls (.i .i64)),.ty (.i .i64)] Jt (λx=>HI x.1 x.2.1 x.2.2.1 x.2.2.2.1) [J9,Jo,J2,Ky,Ds] [Qj] (by kernel_rfl) λx=>by simp only[HI,tm];kernel_rfl
abbrev K9:LX:=⟨⟨[KC,O1,Q7,MI,VL,(9,.cl (.ptr 2 0)),Zh,Ni],[I5,Zy,Zz],ZE,0,132⟩,[(.ext 0,⟨[KC,O1,Q7,MI,VL,(9,.cl (.ptr 2 0)),Zh],[I5,Zy,Zz],ZE,0,132⟩)],[],[1,2,3,6,8,9,11,12],[1,2,3,6,8,9,11]⟩
def Ix(s: (Int×Int×Unit×Unit×Unit×Unit×Unit×Int×Unit)×(L8×Rc×Rc×Unit)×List Int×List Int×List Int×List Int×Unit):K9.R:=
 br (decide (s.1.2.2.2.2.2.2.2.1< (s.2.2.2.2.1.length:Int))) (iteP (0<=s.1.2.2.2.2.2.2.2.1/\s.1.2.2.2.2.2.2.2.1< (s.2.2.2.2.1.length:Int)) ((s.2.2.2.2.1[s.1.2.2.2.2.2.2.2.1.toNat]?).bind λx27=>(Dj s.2.2.1 x27).bind λy28=>let j33 (p32:List Int):K9.R:=some (.inl ((s.1.1,s.1.2.1,(),(),(),(),(),(aaV .i64 (s.1.2.2.2.2.2.2.2.1+1)),()),s.2.1,s.2.2.1,p32,s.2.2.2.2));br y28.1 (iteP (0<=s.1.2.2.2.2.2.2.2.1/\s.1.2.2.2.2.2.2.2.1< (s.2.2.2.2.1.length:Int)) ((s.2.2.2.2.1[s.1.2.2.2.2.2.2.2.1.toNat]?).bind λx29=>iteP (0<=x29) ((s.2.1.1.2.1[x29.toNat]?).bind λx30=>br (x30.config.epoch==s.2.1.2.2.1.1) (iteP (0<=s.1.2.2.2.2.2.2.2.1/\s.1.2.2.2.2.2.2.2.1< (s.2.2.2.2.1.length:Int)) ((s.2.2.2.2.1[s.1.2.2.2.2.2.2.2.1.toNat]?).bind λx31=>iteP ((s.2.2.2.1++([x31]:List Int)).length*8<=2 ^ 40) (j33 (s.2.2.2.1++([x31]:List Int))) none) none) (j33 s.2.2.2.1)) none) none) (j33 s.2.2.2.1)) none) (some (.inr ((s.1.1,s.1.2.1,(),(),(),(),(),()),s.2)))
def Q3:=mh Ix
def Rv[dp] :=FM Tryz.f272 [0] K9 Ix [Fi] [] (by kernel_rfl) λs=>by simp only[Ix,tm];kernel_rfl
def Hq(a0:oQ)(a1:Int)(a2:Int):Option (mt×Bool×Unit):=
 (CC a0).bind λy1=>br (!y1.1) (some ((⟨0,0,([]:List Int),([]:List Int)⟩:mt),false,())) ((CM a1 1 3).bind λy2=>br (!y2.1) (some ((⟨0,0,([]:List Int),([]:List Int)⟩:mt),false,())) ((CM a2 0 1).bind λy3=>br (!y3.1) (some ((⟨0,0,([]:List Int),([]:List Int)⟩:mt),false,())) (br ((a0.master.configs.length:Int)==20) (some ((⟨0,0,([]:List Int),([]:List Int)⟩:mt),false,())) ((H8 a0).bind λy4=>(CK a0.master).bind λy5=>(Q3 ((a1,a2,(),(),(),(),(),0,()),((a0.now,a0.servers,a0.sides,a0.master.configs,a0.master.activated,a0.masterUp,a0.lease.epoch,a0.lease.holder,a0.lease.ends,a0.places,()),(0,0,(),(),()),(y5.1.epoch,y5.1.primary,(),(),()),()),y4.1,([]:List Int),y5.1.replicas,y5.1.witnesses,())).bind λe34=>(HI e34.2.1.1.2.2.2.2.2.2.2.2.2.1 e34.2.2.2.1 e34.2.2.1 e34.1.1).bind λy35=>br ((y35.1.length:Int)==0) (some ((⟨0,0,([]:List Int),([]:List Int)⟩:mt),false,())) (iteP (0<=(0:Int)/\(0:Int)< (y35.1.length:Int)) ((y35.1[(0:Int).toNat]?).bind λx36=>(Dj y35.1 e34.2.1.2.2.1.2.1).bind λy37=>let j43 (p39:Int):Option (mt×Bool×Unit):=br (e34.1.2.1==1) ((DM ([0,1,2,3,4]:List Int) e34.2.2.1).bind λy40=>(Il e34.2.1.1.2.2.2.2.2.2.2.2.2.1 y35.1 y40.1).bind λy41=>br (decide (y41.1≥0)) (some ((⟨(aaV .i64 ((e34.2.1.1.2.2.2.1.length:Int)+1)),p39,y35.1,([y41.1]:List Int)⟩:mt),true,())) (some ((⟨(aaV .i64 ((e34.2.1.1.2.2.2.1.length:Int)+1)),p39,y35.1,([]:List Int)⟩:mt),true,()))) (some ((⟨(aaV .i64 ((e34.2.1.1.2.2.2.1.length:Int)+1)),p39,y35.1,([]:List Int)⟩:mt),true,()));br y37.1 ((GN (⟨e34.2.1.2.2.1.1,e34.2.1.2.2.1.2.1,e34.2.2.2.2.1,e34.2.2.2.2.2.1⟩:mt)).bind λy38=>br (!y38.1) (j43 e34.2.1.2.2.1.2.1) (j43 x36)) (j43 x36)) none)))))
def OS[dp] :=C4 272 Tryz.f272 Q6 Wx (λx=>Hq x.1 x.2.1 x.2.2.1) [CN,Ds,QS,D4,Fi,RY,NI,Jo,PK] [Rv] (by kernel_rfl) λx=>by simp only[Hq,tm];kernel_rfl
def Dg(a0:jr)(a1:mt):Option (jr×Bool×Unit):=
 (Jk a0).bind λy1=>(CP a0).bind λy2=>br (!y2.1) (some (y1.1,false,())) ((CE a1).bind λy3=>br (!y3.1) (some (y1.1,false,())) (br (!(a1.epoch==(aaV .i64 ((a0.configs.length:Int)+1)))) (some (y1.1,false,())) ((Fx a1).bind λy4=>iteP ((y1.1.configs++([y4.1]:List mt)).length*64<=2 ^ 40) (some ((⟨(y1.1.configs++([y4.1]:List mt)),y1.1.activated⟩:jr),true,())) none)))
def Kb[dp] :=C4 69 Tryz.f69 Y4 Yu (λx=>Dg x.1 x.2.1) [Pm,JM,H4,Nc] [] (by kernel_rfl) λx=>by simp only[Dg,tm];kernel_rfl
def F2(a0:oQ)(a1:mt):Option (oQ×Int×Unit):=
 (C7 a0).bind λy1=>(CC a0).bind λy2=>br (!y2.1) (some (y1.1,1,())) (br (decide ((aaV .i64 (a0.masterUp*2))<=3)) (some (y1.1,8,())) ((Dg a0.master a1).bind λy3=>br (!y3.2.1) (some (y1.1,1,())) (some ((⟨y1.1.now,y1.1.servers,y1.1.sides,y3.1,y1.1.masterUp,y1.1.lease,y1.1.places⟩:oQ),0,()))))
def Lw[dp] :=C4 273 Tryz.f273 [.ty (.st .cluster),.ty (.st .config)] MU (λx=>F2 x.1 x.2.1) [DF,CN,Kb] [] (by kernel_rfl) λx=>by simp only[F2,tm];kernel_rfl
def Ey(a0:jr):Option (mt×Bool×Unit):=
 (DG a0 (a0.configs.length:Int)).bind λy1=>some (y1.1,y1.2.1,())
def SY[dp] :=C4 295 Tryz.f295 Vb Wx (λx=>Ey x.1) [Ol] [] (by kernel_rfl) λx=>by simp only[Ey,tm];kernel_rfl
def FT(a0:oU)(a1:Int):Option (oU×Bool×Unit):=
 (FK a0).bind λy1=>(CM a1 1 20).bind λy2=>br (!y2.1) (some (y1.1,false,())) (br (decide (a1<=a0.epoch)) (some (y1.1,false,())) (br (decide (a0.epoch<0)) (some (y1.1,false,())) (some ((⟨y1.1.up,y1.1.intact,y1.1.version,a1,y1.1.config,y1.1.first,y1.1.log,y1.1.commit,y1.1.learned⟩:oU),true,()))))
def OU[dp] :=C4 241 Tryz.f241 Tm XD (λx=>FT x.1 x.2.1) [Pn,Ds] [] (by kernel_rfl) λx=>by simp only[FT,tm];kernel_rfl
abbrev Ke:LX:=⟨⟨[KC,O1,Q7,MI,(7,.cl (.ptr 2 0)),(10,.cl (.own 0 (.i .i64))),SE],[I5,KD,Um],Yy,0,85⟩,[(.ext 0,⟨[(6,.cl (.ptr 0 0)),(7,.cl (.ptr 1 0))],[KD,Vf],XJ,0,85⟩)],[],[1,2,3,6,7,10,11],[6,7]⟩
def HY(s: (Int×Int×Unit×Unit×Unit×Unit×Int×Unit)×(L8×Lh×Lh×Unit)×List Int×List oU×List Int×List mt×List sV×Unit):Ke.R:=
 br (decide (s.1.2.2.2.2.2.2.1< (s.2.2.1.length:Int))) (iteP (0<=s.1.2.2.2.2.2.2.1/\s.1.2.2.2.2.2.2.1< (s.2.2.1.length:Int)) ((s.2.2.1[s.1.2.2.2.2.2.2.1.toNat]?).bind λx36=>iteP (0<=x36) ((s.2.1.1.2.1[x36.toNat]?).bind λx37=>let j47 (p46:List oU):Ke.R:=some (.inl ((s.1.1,s.1.2.1,(),(),(),(),(aaV .i64 (s.1.2.2.2.2.2.2.1+1)),()),s.2.1,s.2.2.1,p46,s.2.2.2.2));br x37.up (iteP (0<=s.1.2.2.2.2.2.2.1/\s.1.2.2.2.2.2.2.1< (s.2.2.1.length:Int)) ((s.2.2.1[s.1.2.2.2.2.2.2.1.toNat]?).bind λx38=>(Ez s.2.1.1.2.2.1 s.1.1 x38).bind λy39=>br y39.1 (iteP (0<=s.1.2.2.2.2.2.2.1/\s.1.2.2.2.2.2.2.1< (s.2.2.1.length:Int)) ((s.2.2.1[s.1.2.2.2.2.2.2.1.toNat]?).bind λx40=>iteP (0<=s.1.2.2.2.2.2.2.1/\s.1.2.2.2.2.2.2.1< (s.2.2.1.length:Int)) ((s.2.2.1[s.1.2.2.2.2.2.2.1.toNat]?).bind λx41=>iteP (0<=x41) ((s.2.1.1.2.1[x41.toNat]?).bind λx42=>(FT x42 s.1.2.1).bind λy43=>iteP (0<=x40/\x40< (s.2.2.2.1.length:Int)) ((s.2.2.2.1[x40.toNat]?).bind λ_=>j47 (s.2.2.2.1.set x40.toNat y43.1)) none) none) none) none) (j47 s.2.2.2.1)) none) (j47 s.2.2.2.1)) none) none) (some (.inr (((),(),()),s.2.1.2,s.2.2.2)))
def Qc:=mh HY
def Qk[dp] :=FM Tryz.f296 [0] Ke HY [Jn,OU] [] (by kernel_rfl) λs=>by simp only[HY,tm];kernel_rfl
def GM(a0:oQ)(a1:Int)(a2:Int):Option (oQ×Unit):=
 (C7 a0).bind λy1=>(CK a0.master).bind λy2=>(CC a0).bind λy3=>br (!y3.1) (some (y1.1,())) (br (!y2.2.1) (some (y1.1,())) ((CM a2 1 (a0.master.configs.length:Int)).bind λy4=>br (!y4.1) (some (y1.1,())) ((C5 y2.1).bind λy5=>(Qc ((a1,a2,(),(),(),(),0,()),((a0.now,a0.servers,a0.sides,a0.master.configs,a0.master.activated,a0.masterUp,a0.lease.epoch,a0.lease.holder,a0.lease.ends,a0.places,()),(0,(),(),(),0,0,0,0,0,(),()),(y1.1.now,(),(),(),y1.1.master.activated,y1.1.masterUp,y1.1.lease.epoch,y1.1.lease.holder,y1.1.lease.ends,(),()),()),y5.1,y1.1.servers,y1.1.sides,y1.1.master.configs,y1.1.places,())).bind λe48=>some ((⟨e48.2.1.2.1.1,e48.2.2.1,e48.2.2.2.1,(⟨e48.2.2.2.2.1,e48.2.1.2.1.2.2.2.2.1⟩:jr),e48.2.1.2.1.2.2.2.2.2.1,(⟨e48.2.1.2.1.2.2.2.2.2.2.1,e48.2.1.2.1.2.2.2.2.2.2.2.1,e48.2.1.2.1.2.2.2.2.2.2.2.2.1⟩:sS),e48.2.2.2.2.2.1⟩:oQ),()))))
def R0[dp] :=C4 296 Tryz.f296 Q6 Ul (λx=>GM x.1 x.2.1 x.2.2.1) [DF,D4,CN,Ds,Hc] [Qk] (by kernel_rfl) λx=>by simp only[GM,tm];kernel_rfl
abbrev Lb:LX:=⟨⟨[KC,Mu,L7,MI,Uk,Nj],[I5,XH],ZF,0,74⟩,[(.ext 0,⟨[L7],[],GG,0,74⟩)],[],[1,2,5,6,7,8],[5]⟩
def Iy(s:Xy×(L8×Rc×Unit)×List Int×List Int×List Int×Unit):Lb.R:=
 br (decide (s.1.2.2.2.2.2.1< (s.2.2.2.1.length:Int))) (br s.1.2.2.2.2.1 ((CC (⟨s.2.1.1.1,s.2.1.1.2.1,s.2.1.1.2.2.1,(⟨s.2.1.1.2.2.2.1,s.2.1.1.2.2.2.2.1⟩:jr),s.2.1.1.2.2.2.2.2.1,(⟨s.2.1.1.2.2.2.2.2.2.1,s.2.1.1.2.2.2.2.2.2.2.1,s.2.1.1.2.2.2.2.2.2.2.2.1⟩:sS),s.2.1.1.2.2.2.2.2.2.2.2.2.1⟩:oQ)).bind λy20=>br y20.1 ((CM s.1.1 0 4).bind λy21=>br y21.1 (iteP (0<=s.1.2.2.2.2.2.1/\s.1.2.2.2.2.2.1< (s.2.2.2.1.length:Int)) ((s.2.2.2.1[s.1.2.2.2.2.2.1.toNat]?).bind λx22=>iteP (0<=x22) ((s.2.1.1.2.1[x22.toNat]?).bind λx23=>let j28 (p27:List Int):Lb.R:=some (.inl ((s.1.1,(),(),(),s.1.2.2.2.2.1,(aaV .i64 (s.1.2.2.2.2.2.1+1)),()),s.2.1,p27,s.2.2.2));br x23.up (br (x23.config.epoch==s.2.1.2.1.1) (iteP (0<=s.1.2.2.2.2.2.1/\s.1.2.2.2.2.2.1< (s.2.2.2.1.length:Int)) ((s.2.2.2.1[s.1.2.2.2.2.2.1.toNat]?).bind λx24=>(Ez s.2.1.1.2.2.1 s.1.1 x24).bind λy25=>br y25.1 (iteP (0<=s.1.2.2.2.2.2.1/\s.1.2.2.2.2.2.1< (s.2.2.2.1.length:Int)) ((s.2.2.2.1[s.1.2.2.2.2.2.1.toNat]?).bind λx26=>iteP ((s.2.2.1++([x26]:List Int)).length*8<=2 ^ 40) (j28 (s.2.2.1++([x26]:List Int))) none) none) (j28 s.2.2.1)) none) (j28 s.2.2.1)) (j28 s.2.2.1)) none) none) (some (.inr (((),()),(()),s.2.2.1,())))) (some (.inr (((),()),(()),s.2.2.1,())))) (some (.inr (((),()),(()),s.2.2.1,())))) (some (.inr (((),()),(()),s.2.2.1,())))
def Q4:=mh Iy
def Rx[dp] :=FM Tryz.f26 [0] Lb Iy [CN,Ds,Jn] [] (by kernel_rfl) λs=>by simp only[Iy,tm];kernel_rfl
def IU(a0:oQ)(a1:Int):Option ((List Int)×Unit):=
 (CK a0.master).bind λy1=>(Q4 ((a1,(),(),(),y1.2.1,0,()),((a0.now,a0.servers,a0.sides,a0.master.configs,a0.master.activated,a0.masterUp,a0.lease.epoch,a0.lease.holder,a0.lease.ends,a0.places,()),(y1.1.epoch,y1.1.primary,(),(),()),()),([]:List Int),y1.1.replicas,y1.1.witnesses,())).bind λe29=>some e29.2.2
def S9[dp] :=C4 26 Tryz.f26 K1 Jt (λx=>IU x.1 x.2.1) [D4] [Rx] (by kernel_rfl) λx=>by simp only[IU,tm];kernel_rfl
abbrev Nq:LX:=⟨⟨[Mu,LC,VK,MT],[I5],GG,0,44⟩,[(.ext 0,⟨[LC],[],[],0,44⟩)],[],[2,5,6,7],[5]⟩
def Iu(s:Xx×(L8×Unit)×List Int×Unit):Nq.R:=
 br (decide (s.1.2.2.2.1< (s.2.2.1.length:Int))) (br (decide (s.1.2.1<0)) (iteP (0<=s.1.2.2.2.1/\s.1.2.2.2.1< (s.2.2.1.length:Int)) ((s.2.2.1[s.1.2.2.2.1.toNat]?).bind λx15=>some (.inl (((),x15,(),(aaV .i64 (s.1.2.2.2.1+1)),()),s.2))) none) (iteP (0<=s.1.2.2.2.1/\s.1.2.2.2.1< (s.2.2.1.length:Int)) ((s.2.2.1[s.1.2.2.2.1.toNat]?).bind λx16=>iteP (0<=x16) ((s.2.1.1.2.1[x16.toNat]?).bind λx17=>iteP (0<=s.1.2.1) ((s.2.1.1.2.1[s.1.2.1.toNat]?).bind λx18=>br (decide ((x17.log.length:Int)>(x18.log.length:Int))) (iteP (0<=s.1.2.2.2.1/\s.1.2.2.2.1< (s.2.2.1.length:Int)) ((s.2.2.1[s.1.2.2.2.1.toNat]?).bind λx19=>some (.inl (((),x19,(),(aaV .i64 (s.1.2.2.2.1+1)),()),s.2))) none) (some (.inl (((),s.1.2.1,(),(aaV .i64 (s.1.2.2.2.1+1)),()),s.2)))) none) none) none)) (some (.inr ((s.1.2.1,()),(()),(()))))
def QZ:=mh Iu
def Rr[dp] :=FM Tryz.f28 [0] Nq Iu [] [] (by kernel_rfl) λs=>by simp only[Iu,tm];kernel_rfl
def II(a0:oQ)(a1:Int):Option (Int×Unit):=
 (IU a0 a1).bind λy1=>(QZ (((),(-1),(),0,()),((a0.now,a0.servers,a0.sides,a0.master.configs,a0.master.activated,a0.masterUp,a0.lease.epoch,a0.lease.holder,a0.lease.ends,a0.places,()),()),y1.1,())).bind λe21=>some e21.1
def ST[dp] :=C4 28 Tryz.f28 K1 HS (λx=>II x.1 x.2.1) [S9] [Rr] (by kernel_rfl) λx=>by simp only[II,tm];kernel_rfl
def Ip(a0:oU)(a1:Int):Option ((List pS)×Unit):=
 (Dm a0.config a1).bind λy1=>(DP a0.learned).bind λy2=>br (y1.1==1) ((Df a0).bind λy3=>br (decide ((y3.1.length:Int)>(y2.1.length:Int))) (some (y3.1,())) (some (y2.1,()))) (br (y1.1==2) ((Df a0).bind λy4=>br (decide ((y4.1.length:Int)>(y2.1.length:Int))) (some (y4.1,())) (some (y2.1,()))) (some (y2.1,())))
def Sv[dp] :=C4 103 Tryz.f103 Tm Tn (λx=>Ip x.1 x.2.1) [LW,He,H3] [] (by kernel_rfl) λx=>by simp only[Ip,tm];kernel_rfl
def LO(a0:Int)(a1:List pS):Option (Bool×Unit):=
 (Dk a1).bind λy1=>br y1.1 (br (decide ((a1.length:Int)<=3)) ((CM a0 0 (aaV .i64 (16-(a1.length:Int)))).bind λy2=>br y2.1 (br (a0==0) (some (true,())) (some (((a1.length:Int)==3),()))) (some (false,()))) (some (false,()))) (some (false,()))
def Ws[dp] :=C4 174 Tryz.f174 Y5 [.b] (λx=>LO x.1 x.2.1) [Kz,Ds] [] (by kernel_rfl) λx=>by simp only[LO,tm];kernel_rfl
abbrev Mb:LX:=⟨⟨[Kl,VN,LC],[],[],0,30⟩,[(.ext 0,⟨[LC],[],[],0,30⟩)],[],[0,1,5],[5]⟩
def EN(s: (List pS×List pS×Int×Unit)×Unit×Unit):Mb.R:=
 br (decide (s.1.2.2.1< (s.1.1.length:Int))) (br (decide (s.1.2.2.1< (s.1.2.1.length:Int))) (iteP (0<=s.1.2.2.1) ((s.1.1[s.1.2.2.1.toNat]?).bind λx4=>iteP (0<=s.1.2.2.1) ((s.1.2.1[s.1.2.2.1.toNat]?).bind λx5=>br ((x4.epoch==x5.epoch)&&((x4.op.client==x5.op.client)&&((x4.op.seq==x5.op.seq)&&((x4.op.kind==x5.op.kind)&&((x4.op.object==x5.op.object)&&((x4.op.old==x5.op.old)&&((x4.op.value==x5.op.value)&&true))))))) (some (.inl ((s.1.1,s.1.2.1,(aaV .i64 (s.1.2.2.1+1)),()),(()),(())))) (some (.inr (s.1.2.2,(()),(()))))) none) none) (some (.inr (s.1.2.2,(()),(()))))) (some (.inr (s.1.2.2,(()),(()))))
def Jq:=mh EN
def Pw[dp] :=FM Tryz.f175 [0] Mb EN [] [] (by kernel_rfl) λs=>by simp only[EN,tm];kernel_rfl
def Gg(a0:List pS)(a1:List pS):Option (Int×Unit):=
 (Jq ((a0,a1,0,()),(()),(()))).bind λe6=>some e6.1
def QH[dp] :=C4 175 Tryz.f175 Y6 HS (λx=>Gg x.1 x.2.1) [] [Pw] (by kernel_rfl) λx=>by simp only[Gg,tm];kernel_rfl
def KN(a0:List pS)(a1:Int)(a2:List pS):Option ((List pS)×Bool×Unit):=
 (Dk a0).bind λy1=>br (!y1.1) (some (([]:List pS),false,())) ((LO a1 a2).bind λy2=>br (!y2.1) (some (([]:List pS),false,())) (br (decide (a1>(a0.length:Int))) (some (([]:List pS),false,())) (iteP (0<=a1/\a1<=(a0.length:Int)/\(a0.length:Int)<=(a0.length:Int)) ((Gg ((a0.drop a1.toNat).take ((a0.length:Int).toNat-a1.toNat)) a2).bind λy3=>br (decide (y3.1< (if (a2.length:Int)< (aaV .i64 ((a0.length:Int)-a1)) then (a2.length:Int) else (aaV .i64 ((a0.length:Int)-a1))))) (some (([]:List pS),false,())) ((DP a0).bind λy4=>iteP (0<=y3.1/\y3.1<=(a2.length:Int)/\(a2.length:Int)<=(a2.length:Int)) (iteP ((y4.1++((a2.drop y3.1.toNat).take ((a2.length:Int).toNat-y3.1.toNat))).length*56<=2 ^ 40) ((Dk (y4.1++((a2.drop y3.1.toNat).take ((a2.length:Int).toNat-y3.1.toNat)))).bind λy5=>br (!y5.1) (some (([]:List pS),false,())) (some ((y4.1++((a2.drop y3.1.toNat).take ((a2.length:Int).toNat-y3.1.toNat))),true,()))) none) none)) none)))
def UU[dp] :=C4 102 Tryz.f102 [.ty (.ls (.st .entry)),.ty (.i .i64),.ty (.ls (.st .entry))] XE (λx=>KN x.1 x.2.1 x.2.2.1) [Kz,Ws,QH,He] [] (by kernel_rfl) λx=>by simp only[KN,tm];kernel_rfl
abbrev Kf:LX:=⟨⟨[KC,Mu,VO,Uk,Xv,SC,Q8,(11,.cl (.ptr 2 0)),Ni],[I5,XH,ZA],XI,0,121⟩,[(.ext 2,⟨[KC,Mu,VO,Uk,Xv,SC,Q8],[I5,XH],XI,0,121⟩)],[],[1,2,6,7,8,9,10,11,12],[1,2,6,7,8,9,10]⟩
def HZ(s: (Int×Unit×Unit×Bool×Unit×Bool×Int×Unit×Int×Unit)×(L8×Rc×Zq×Unit)×List pS×List Int×List Int×Unit):Kf.R:=
 br (decide (s.1.2.2.2.2.2.2.2.2.1<5)) (iteP (0<=s.1.2.2.2.2.2.2.2.2.1) ((s.2.1.1.2.1[s.1.2.2.2.2.2.2.2.2.1.toNat]?).bind λx59=>let j66 (p64:List pS) (p65:Bool):Kf.R:=some (.inl ((s.1.1,(),(),p65,(),s.1.2.2.2.2.2.1,s.1.2.2.2.2.2.2.1,(),(aaV .i64 (s.1.2.2.2.2.2.2.2.2.1+1)),()),s.2.1,p64,s.2.2.2));br (!x59.up) (j66 s.2.2.1 s.1.2.2.2.1) ((Ez s.2.1.1.2.2.1 s.1.1 s.1.2.2.2.2.2.2.2.2.1).bind λy60=>br (!y60.1) (j66 s.2.2.1 s.1.2.2.2.1) (iteP (0<=s.1.2.2.2.2.2.2.2.2.1) ((s.2.1.1.2.1[s.1.2.2.2.2.2.2.2.2.1.toNat]?).bind λx61=>(Ip x61 s.1.2.2.2.2.2.2.2.2.1).bind λy62=>(KN y62.1 s.2.1.2.2.1.2.2.2.2.2.2.2.2.1 s.2.1.2.2.1.2.2.2.2.2.2.2.2.2.1).bind λy63=>br y63.2.1 (br (!s.1.2.2.2.1) (j66 y63.1 true) (br (decide ((y63.1.length:Int)>(s.2.2.1.length:Int))) (j66 y63.1 true) (j66 s.2.2.1 s.1.2.2.2.1))) (j66 s.2.2.1 s.1.2.2.2.1)) none))) none) (some (.inr ((s.1.1,(),(),s.1.2.2.2.1,(),s.1.2.2.2.2.2.1,s.1.2.2.2.2.2.2.1,()),(s.2.1.1,s.2.1.2.1,()),s.2.2)))
def MF:=mh HZ
def Ql[dp] :=FM Tryz.f32 [0,0] Kf HZ [Jn,Sv,UU] [] (by kernel_rfl) λs=>by simp only[HZ,tm];kernel_rfl
abbrev Nu:LX:=⟨⟨[KC,Mu,VO,Uk,Xv,SC,Q8],[I5,XH],XI,0,121⟩,[(.ext 0,⟨[VO,Uk],[],[.st .entry],0,121⟩)],[],[1,2,6,7,8,9,10],[6,7]⟩
def Iz(s: (Int×Unit×Unit×Bool×Unit×Bool×Int×Unit)×(L8×Rc×Unit)×List pS×List Int×List Int×Unit):Nu.R:=
 br (decide (s.1.2.2.2.2.2.2.1< (s.2.2.2.2.1.length:Int))) (br s.1.2.2.2.2.2.1 ((CC (⟨s.2.1.1.1,s.2.1.1.2.1,s.2.1.1.2.2.1,(⟨s.2.1.1.2.2.2.1,s.2.1.1.2.2.2.2.1⟩:jr),s.2.1.1.2.2.2.2.2.1,(⟨s.2.1.1.2.2.2.2.2.2.1,s.2.1.1.2.2.2.2.2.2.2.1,s.2.1.1.2.2.2.2.2.2.2.2.1⟩:sS),s.2.1.1.2.2.2.2.2.2.2.2.2.1⟩:oQ)).bind λy21=>br y21.1 ((CM s.1.1 0 4).bind λy22=>br y22.1 (iteP (0<=s.1.2.2.2.2.2.2.1/\s.1.2.2.2.2.2.2.1< (s.2.2.2.2.1.length:Int)) ((s.2.2.2.2.1[s.1.2.2.2.2.2.2.1.toNat]?).bind λx23=>iteP (0<=x23) ((s.2.1.1.2.1[x23.toNat]?).bind λx24=>br (!x24.up) (some (.inl ((s.1.1,(),(),s.1.2.2.2.1,(),s.1.2.2.2.2.2.1,(aaV .i64 (s.1.2.2.2.2.2.2.1+1)),()),s.2))) (br (!(x24.config.epoch==s.2.1.2.1.1)) (some (.inl ((s.1.1,(),(),s.1.2.2.2.1,(),s.1.2.2.2.2.2.1,(aaV .i64 (s.1.2.2.2.2.2.2.1+1)),()),s.2))) (iteP (0<=s.1.2.2.2.2.2.2.1/\s.1.2.2.2.2.2.2.1< (s.2.2.2.2.1.length:Int)) ((s.2.2.2.2.1[s.1.2.2.2.2.2.2.1.toNat]?).bind λx25=>(Ez s.2.1.1.2.2.1 s.1.1 x25).bind λy26=>br (!y26.1) (some (.inl ((s.1.1,(),(),s.1.2.2.2.1,(),s.1.2.2.2.2.2.1,(aaV .i64 (s.1.2.2.2.2.2.2.1+1)),()),s.2))) ((MF ((s.1.1,(),(),s.1.2.2.2.1,(),s.1.2.2.2.2.2.1,s.1.2.2.2.2.2.2.1,(),0,()),(s.2.1.1,s.2.1.2.1,(x24.up,x24.intact,x24.version,x24.epoch,x24.config.epoch,x24.config.primary,x24.config.replicas,x24.config.witnesses,x24.first,x24.log,x24.commit,x24.learned,()),()),s.2.2)).bind λe67=>some (.inl ((e67.1.1,(),(),e67.1.2.2.2.1,(),e67.1.2.2.2.2.2.1,(aaV .i64 (e67.1.2.2.2.2.2.2.1+1)),()),e67.2)))) none))) none) none) (some (.inr (((),s.1.2.2.2.1,()),(()),s.2.2.1,())))) (some (.inr (((),s.1.2.2.2.1,()),(()),s.2.2.1,())))) (some (.inr (((),s.1.2.2.2.1,()),(()),s.2.2.1,())))) (some (.inr (((),s.1.2.2.2.1,()),(()),s.2.2.1,())))
def Q5:=mh Iz
def Ry[dp] :=FM Tryz.f32 [0] Nu Iz [CN,Ds,Jn] [Ql] (by kernel_rfl) λs=>by simp only[Iz,tm];kernel_rfl
def IV(a0:oQ)(a1:Int):Option ((List pS)×Bool×Unit):=
 (CK a0.master).bind λy1=>(Q5 ((a1,(),(),false,(),y1.2.1,0,()),((a0.now,a0.servers,a0.sides,a0.master.configs,a0.master.activated,a0.masterUp,a0.lease.epoch,a0.lease.holder,a0.lease.ends,a0.places,()),(y1.1.epoch,y1.1.primary,(),(),()),()),([]:List pS),y1.1.replicas,y1.1.witnesses,())).bind λe87=>some (e87.2.2.1,e87.1.2)
def Tb[dp] :=C4 32 Tryz.f32 K1 XE (λx=>IV x.1 x.2.1) [D4] [Ry] (by kernel_rfl) λx=>by simp only[IV,tm];kernel_rfl
def Im(a0:oQ)(a1:Int):Option ((List pS)×Bool×Unit):=
 (CC a0).bind λy1=>br (!y1.1) (some (([]:List pS),false,())) ((CM a1 0 4).bind λy2=>br (!y2.1) (some (([]:List pS),false,())) (br (a0.master.activated==0) (some (([]:List pS),true,())) ((II a0 a1).bind λy3=>br (decide (y3.1≥0)) (iteP (0<=y3.1) ((a0.servers[y3.1.toNat]?).bind λx4=>(DP x4.log).bind λy5=>some (y5.1,true,())) none) ((IV a0 a1).bind λy6=>some (y6.1,y6.2.1,())))))
def T6[dp] :=C4 22 Tryz.f22 K1 XE (λx=>Im x.1 x.2.1) [CN,Ds,ST,He,Tb] [] (by kernel_rfl) λx=>by simp only[Im,tm];kernel_rfl
abbrev Mf:LX:=⟨⟨[Kl,K3],[],[],0,16⟩,[(.ret,⟨[K2],[],[],0,16⟩),(.ext 0,⟨[Nl],[],[],0,16⟩)],[],[0,3],[2]⟩
def DL(s:Zo×Unit×Unit):Mf.R:=
 br (decide (s.1.2.1< (s.1.1.length:Int))) (iteP (0<=s.1.2.1) ((s.1.1[s.1.2.1.toNat]?).bind λx3=>(Ff x3.op).bind λy4=>br y4.1 (some (.inr (.inl ((true,()),(()),(()))))) (some (.inl ((s.1.1,(aaV .i64 (s.1.2.1+1)),()),(()),(()))))) none) (some (.inr (.inr (((),()),(()),(())))))
def Gk:=mh DL
def PA[dp] :=FM Tryz.f146 [0] Mf DL [NY] [] (by kernel_rfl) λs=>by simp only[DL,tm];kernel_rfl
def DH(a0:List pS):Option (Bool×Unit):=
 (Gk ((a0,0,()),(()),(()))).bind λe5=>Sum.elim (λe5_0=>some e5_0.1) (λ_=>some (false,())) e5
def KV[dp] :=C4 146 Tryz.f146 Ot [.b] (λx=>DH x.1) [] [PA] (by kernel_rfl) λx=>by simp only[DH,tm];kernel_rfl
def Dw(a0:oU)(a1:mt)(a2:Int)(a3:List pS):Option (oU×Bool×Unit):=
 (Dm a1 a2).bind λy1=>br (y1.1==0) ((FK a0).bind λy2=>some (y2.1,false,())) ((Dk a3).bind λy3=>br (!y3.1) ((FK a0).bind λy4=>some (y4.1,false,())) ((CM a0.version 1 2).bind λy5=>br (!y5.1) ((FK a0).bind λy6=>some (y6.1,false,())) ((CM a0.epoch 0 a1.epoch).bind λy7=>br (!y7.1) ((FK a0).bind λy8=>some (y8.1,false,())) ((FL a3).bind λy9=>br (decide (y9.1>a1.epoch)) ((FK a0).bind λy10=>some (y10.1,false,())) (let j18:Option (oU×Bool×Unit):=(Fx a1).bind λy13=>(DP a3).bind λy14=>br (y1.1==3) (iteP (0<=(if (aaV .i64 ((a3.length:Int)-3))>0 then (aaV .i64 ((a3.length:Int)-3)) else 0)/\(if (aaV .i64 ((a3.length:Int)-3))>0 then (aaV .i64 ((a3.length:Int)-3)) else 0)<=(a3.length:Int)/\(a3.length:Int)<=(a3.length:Int)) ((DP ((a3.drop (if (aaV .i64 ((a3.length:Int)-3))>0 then (aaV .i64 ((a3.length:Int)-3)) else 0).toNat).take ((a3.length:Int).toNat-(if (aaV .i64 ((a3.length:Int)-3))>0 then (aaV .i64 ((a3.length:Int)-3)) else 0).toNat))).bind λy15=>some ((⟨a0.up,true,a0.version,a1.epoch,y13.1,(if (aaV .i64 ((a3.length:Int)-3))>0 then (aaV .i64 ((a3.length:Int)-3)) else 0),y15.1,(a3.length:Int),([]:List pS)⟩:oU),true,())) none) (some ((⟨a0.up,true,a0.version,a1.epoch,y13.1,0,y14.1,(a3.length:Int),([]:List pS)⟩:oU),true,()));br (a0.version==1) ((DH a3).bind λy11=>br y11.1 ((FK a0).bind λy12=>some (y12.1,false,())) (j18)) (j18))))))
def Ka[dp] :=C4 71 Tryz.f71 Y7 XD (λx=>Dw x.1 x.2.1 x.2.2.1 x.2.2.2.1) [LW,Pn,Kz,Ds,Po,KV,Nc,He] [] (by kernel_rfl) λx=>by simp only[Dw,tm];kernel_rfl
def De(a0:jr)(a1:Int):Option (jr×Bool×Unit):=
 (Jk a0).bind λy1=>(CP a0).bind λy2=>br (!y2.1) (some (y1.1,false,())) (br (!(a1==(a0.configs.length:Int))) (some (y1.1,false,())) (br (decide (a1<=a0.activated)) (some (y1.1,false,())) (some ((⟨y1.1.configs,a1⟩:jr),true,()))))
def Jm[dp] :=C4 70 Tryz.f70 VJ Yu (λx=>De x.1 x.2.1) [Pm,JM] [] (by kernel_rfl) λx=>by simp only[De,tm];kernel_rfl
abbrev N4:LX:=⟨⟨[HQ,L6,O2,PQ,Q9,Ra,Q8],[I5,KD,To,Vg],Vh,0,180⟩,[(.ret,⟨[HQ,L6,K3,O2,PQ,Q9,Ra],[I5,To,To,Vg],Vh,0,180⟩),(.ext 1,⟨[HQ,L6,(3,.cl (.dead)),O2,PQ,Q9,Ra],[I5,KD,To,Vg],Vh,0,180⟩)],[],[1,2,4,5,7,9,10],[1,2,3,4,5,7,9]⟩
def Jy(s:Xz×(L8×Lh×Lh×Rc×Unit)×List pS×List Int×List oU×List Int×List mt×List sV×List Int×List Int×Unit):N4.R:=
 br (decide (s.1.2.2.2.2.2.2.1< (s.2.2.2.1.length:Int))) (iteP (0<=s.1.2.2.2.2.2.2.1/\s.1.2.2.2.2.2.2.1< (s.2.2.2.1.length:Int)) ((s.2.2.2.1[s.1.2.2.2.2.2.2.1.toNat]?).bind λx43=>iteP (0<=x43) ((s.2.1.1.2.1[x43.toNat]?).bind λx44=>br (!x44.up) (some (.inr (.inl (((),(),10,(),(),(),(),()),(s.2.1.1,s.2.1.2.2.1,s.2.1.2.2),s.2.2)))) (iteP (0<=s.1.2.2.2.2.2.2.1/\s.1.2.2.2.2.2.2.1< (s.2.2.2.1.length:Int)) ((s.2.2.2.1[s.1.2.2.2.2.2.2.1.toNat]?).bind λx45=>iteP (0<=x45) ((s.2.1.1.2.2.1[x45.toNat]?).bind λx46=>br (!(x46==0)) (some (.inr (.inl (((),(),10,(),(),(),(),()),(s.2.1.1,s.2.1.2.2.1,s.2.1.2.2),s.2.2)))) (some (.inl (((),(),(),(),(),(),(aaV .i64 (s.1.2.2.2.2.2.2.1+1)),()),s.2)))) none) none)) none) none) (some (.inr (.inr (((),(),(),(),(),(),(),()),s.2))))
def R2:=mh Jy
def R9[dp] :=FM Tryz.f274 [0] N4 Jy [] [] (by kernel_rfl) λs=>by simp only[Jy,tm];kernel_rfl
abbrev LD:LX:=⟨⟨[HQ,L6,O2,PQ,Q9,Ra,SE],[I5,KD,To,Vg],Vh,0,180⟩,[(.ret,⟨[HQ,L6,K3,O2,PQ,Q9,Ra],[I5,To,To,Vg],Vh,0,180⟩),(.ext 3,⟨[HQ,L6,(3,.cl (.dead)),O2,PQ,Q9,Ra],[I5,KD,To,Vg],Vh,0,180⟩)],[],[1,2,4,5,7,9,11],[1,2,3,4,5,7,9]⟩
def Jz(s:Xz×(L8×Lh×Lh×Rc×Unit)×List pS×List Int×List oU×List Int×List mt×List sV×List Int×List Int×Unit):LD.R:=
 br (decide (s.1.2.2.2.2.2.2.1< (s.2.2.2.1.length:Int))) (iteP (0<=s.1.2.2.2.2.2.2.1/\s.1.2.2.2.2.2.2.1< (s.2.2.2.1.length:Int)) ((s.2.2.2.1[s.1.2.2.2.2.2.2.1.toNat]?).bind λx81=>iteP (0<=x81) ((s.2.1.1.2.1[x81.toNat]?).bind λx82=>let j84:LD.R:=some (.inl (((),(),(),(),(),(),(aaV .i64 (s.1.2.2.2.2.2.2.1+1)),()),s.2));br (x82.version==1) ((DH s.2.2.1).bind λy83=>br y83.1 (some (.inr (.inl (((),(),6,(),(),(),(),()),(s.2.1.1,s.2.1.2.2.1,s.2.1.2.2),s.2.2)))) (j84)) (j84)) none) none) (some (.inr (.inr (((),(),(),(),(),(),(),()),s.2))))
def N0:=mh Jz
def Sa[dp] :=FM Tryz.f274 [1] LD Jz [KV] [] (by kernel_rfl) λs=>by simp only[Jz,tm];kernel_rfl
abbrev N5:LX:=⟨⟨[HQ,L6,O2,PQ,Q9,Ra,Ni],[I5,KD,To,Vg],Vh,0,180⟩,[(.ext 5,⟨[HQ,L6,O2,PQ],[I5,KD,Vf,[.int .i64,.int .i64,.own 4 (.i .i64),.own 5 (.i .i64)]],[.st .server,.i .i64,.st .config,.st .place,.i .i64,.i .i64],0,180⟩)],[],[1,2,4,5,7,9,12],[1,2,4,5]⟩
def JA(s:Xz×(L8×Lh×Lh×Rc×Unit)×List pS×List Int×List oU×List Int×List mt×List sV×List Int×List Int×Unit):N5.R:=
 br (decide (s.1.2.2.2.2.2.2.1< (s.2.2.2.1.length:Int))) (iteP (0<=s.1.2.2.2.2.2.2.1/\s.1.2.2.2.2.2.2.1< (s.2.2.2.1.length:Int)) ((s.2.2.2.1[s.1.2.2.2.2.2.2.1.toNat]?).bind λx119=>iteP (0<=s.1.2.2.2.2.2.2.1/\s.1.2.2.2.2.2.2.1< (s.2.2.2.1.length:Int)) ((s.2.2.2.1[s.1.2.2.2.2.2.2.1.toNat]?).bind λx120=>iteP (0<=x120/\x120< (s.2.2.2.2.1.length:Int)) ((s.2.2.2.2.1[x120.toNat]?).bind λx121=>iteP (0<=s.1.2.2.2.2.2.2.1/\s.1.2.2.2.2.2.2.1< (s.2.2.2.1.length:Int)) ((s.2.2.2.1[s.1.2.2.2.2.2.2.1.toNat]?).bind λx122=>(s.2.2.2.2.1[x120.toNat]?).bind λx123=>iteP (0+x121.config.replicas.length<=x123.config.replicas.length) ((s.2.2.2.2.1[x120.toNat]?).bind λx124=>iteP (0+x121.config.witnesses.length<=x124.config.witnesses.length) ((s.2.2.2.2.1[x120.toNat]?).bind λx125=>iteP (0+x121.log.length<=x125.log.length) ((s.2.2.2.2.1[x120.toNat]?).bind λx126=>iteP (0+x121.learned.length<=x126.learned.length) ((Dw (⟨x121.up,x121.intact,x121.version,x121.epoch,(⟨x121.config.epoch,x121.config.primary,((x123.config.replicas.drop 0).take x121.config.replicas.length),((x124.config.witnesses.drop 0).take x121.config.witnesses.length)⟩:mt),x121.first,((x125.log.drop 0).take x121.log.length),x121.commit,((x126.learned.drop 0).take x121.learned.length)⟩:oU) (⟨s.2.1.2.2.2.1.1,s.2.1.2.2.2.1.2.1,s.2.2.2.2.2.2.2.2.1,s.2.2.2.2.2.2.2.2.2.1⟩:mt) x122 s.2.2.1).bind λy127=>iteP (0<=x119/\x119< (s.2.2.2.2.1.length:Int)) ((s.2.2.2.2.1[x119.toNat]?).bind λ_=>some (.inl (((),(),(),(),(),(),(aaV .i64 (s.1.2.2.2.2.2.2.1+1)),()),s.2.1,s.2.2.1,s.2.2.2.1,(s.2.2.2.2.1.set x119.toNat y127.1),s.2.2.2.2.2))) none) none) none) none) none) none) none) none) none) (some (.inr (((),(),(),(),()),s.2.1,s.2.2.2.2)))
def N1:=mh JA
def Sb[dp] :=FM Tryz.f274 [2] N5 JA [Ka] [] (by kernel_rfl) λs=>by simp only[JA,tm];kernel_rfl
def H6(a0:oQ):Option (oQ×Int×Unit):=
 (C7 a0).bind λy1=>(Ey a0.master).bind λy2=>(CC a0).bind λy3=>br (!y3.1) (some (y1.1,1,())) (br (!y2.2.1) (some (y1.1,1,())) (br (y2.1.epoch==a0.master.activated) (some (y1.1,1,())) (br (decide ((aaV .i64 (a0.masterUp*2))<=3)) (some (y1.1,8,())) (iteP (0<=y2.1.primary) ((a0.servers[y2.1.primary.toNat]?).bind λx4=>br (!x4.up) (some (y1.1,2,())) (iteP (0<=y2.1.primary) ((a0.sides[y2.1.primary.toNat]?).bind λx5=>br (!(x5==0)) (some (y1.1,10,())) ((Fh a0.lease a0.now).bind λy6=>br (!y6.1) (some (y1.1,7,())) ((GM a0 y2.1.primary y2.1.epoch).bind λy7=>(Im a0 y2.1.primary).bind λy8=>br (!y8.2.1) (some (y7.1,9,())) ((C5 y2.1).bind λy9=>(R2 (((),(),(),(),(),(),0,()),((a0.now,a0.servers,a0.sides,a0.master.configs,a0.master.activated,a0.masterUp,a0.lease.epoch,a0.lease.holder,a0.lease.ends,a0.places,()),(0,(),(),(),0,0,0,0,0,(),()),(y7.1.now,(),(),(),y7.1.master.activated,y7.1.masterUp,y7.1.lease.epoch,y7.1.lease.holder,y7.1.lease.ends,(),()),(y2.1.epoch,y2.1.primary,(),(),()),()),y8.1,y9.1,y7.1.servers,y7.1.sides,y7.1.master.configs,y7.1.places,y2.1.replicas,y2.1.witnesses,())).bind λe47=>Sum.elim (λe47_0=>some ((⟨e47_0.2.1.2.1.1,e47_0.2.2.2.2.1,e47_0.2.2.2.2.2.1,(⟨e47_0.2.2.2.2.2.2.1,e47_0.2.1.2.1.2.2.2.2.1⟩:jr),e47_0.2.1.2.1.2.2.2.2.2.1,(⟨e47_0.2.1.2.1.2.2.2.2.2.2.1,e47_0.2.1.2.1.2.2.2.2.2.2.2.1,e47_0.2.1.2.1.2.2.2.2.2.2.2.2.1⟩:sS),e47_0.2.2.2.2.2.2.2.1⟩:oQ),e47_0.1.2.2.1,())) (λe47_1=>(N0 (((),(),(),(),(),(),0,()),e47_1.2)).bind λe85=>Sum.elim (λe85_0=>some ((⟨e85_0.2.1.2.1.1,e85_0.2.2.2.2.1,e85_0.2.2.2.2.2.1,(⟨e85_0.2.2.2.2.2.2.1,e85_0.2.1.2.1.2.2.2.2.1⟩:jr),e85_0.2.1.2.1.2.2.2.2.2.1,(⟨e85_0.2.1.2.1.2.2.2.2.2.2.1,e85_0.2.1.2.1.2.2.2.2.2.2.2.1,e85_0.2.1.2.1.2.2.2.2.2.2.2.2.1⟩:sS),e85_0.2.2.2.2.2.2.2.1⟩:oQ),e85_0.1.2.2.1,())) (λe85_1=>(N1 (((),(),(),(),(),(),0,()),e85_1.2)).bind λe130=>(De (⟨e130.2.1.1.2.2.2.1,e130.2.1.1.2.2.2.2.1⟩:jr) e130.2.1.2.2.2.1.1).bind λy131=>some ((⟨e130.2.1.2.2.1.1,e130.2.2.1,e130.2.2.2.1,y131.1,e130.2.1.2.2.1.2.2.2.2.2.1,(⟨0,0,0⟩:sS),e130.2.2.2.2.2.1⟩:oQ),0,())) e85) e47)))) none)) none))))
def Ok[dp] :=C4 274 Tryz.f274 L5 MU (λx=>H6 x.1) [DF,SY,CN,Lu,R0,T6,Hc,Jm] [R9,Sa,Sb] (by kernel_rfl) λx=>by simp only[H6,tm];kernel_rfl
def GO(a0:oQ)(a1:Int):Option (Bool×Unit):=
 (CC a0).bind λy1=>br y1.1 ((CM a1 0 4).bind λy2=>some (y2.1,())) (some (false,()))
def LY[dp] :=C4 198 Tryz.f198 K1 [.b] (λx=>GO x.1 x.2.1) [CN,Ds] [] (by kernel_rfl) λx=>by simp only[GO,tm];kernel_rfl
def HG(a0:oQ)(a1:Int):Option (oQ×Int×Unit):=
 (C7 a0).bind λy1=>(GO a0 a1).bind λy2=>br (!y2.1) (some (y1.1,1,())) (iteP (0<=a1) ((a0.servers[a1.toNat]?).bind λx3=>br (!x3.up) (some (y1.1,2,())) (iteP (0<=a1/\a1< (y1.1.servers.length:Int)) ((y1.1.servers[a1.toNat]?).bind λx4=>some ((⟨y1.1.now,(y1.1.servers.set a1.toNat (⟨false,x4.intact,x4.version,x4.epoch,x4.config,x4.first,x4.log,x4.commit,x4.learned⟩:oU)),y1.1.sides,y1.1.master,y1.1.masterUp,y1.1.lease,y1.1.places⟩:oQ),0,())) none)) none)
def RU[dp] :=C4 275 Tryz.f275 K1 MU (λx=>HG x.1 x.2.1) [DF,LY] [] (by kernel_rfl) λx=>by simp only[HG,tm];kernel_rfl
def GB(a0:oQ)(a1:Int):Option (oQ×Int×Unit):=
 (C7 a0).bind λy1=>(GO a0 a1).bind λy2=>br (!y2.1) (some (y1.1,1,())) (iteP (0<=a1) ((a0.servers[a1.toNat]?).bind λx3=>br x3.up (some (y1.1,1,())) (iteP (0<=a1/\a1< (y1.1.servers.length:Int)) ((y1.1.servers[a1.toNat]?).bind λx4=>some ((⟨y1.1.now,(y1.1.servers.set a1.toNat (⟨true,x4.intact,x4.version,x4.epoch,x4.config,x4.first,x4.log,x4.commit,x4.learned⟩:oU)),y1.1.sides,y1.1.master,y1.1.masterUp,y1.1.lease,y1.1.places⟩:oQ),0,())) none)) none)
def P6[dp] :=C4 276 Tryz.f276 K1 MU (λx=>GB x.1 x.2.1) [DF,LY] [] (by kernel_rfl) λx=>by simp only[GB,tm];kernel_rfl
def Kv(a0:oU):Option (oU×Unit):=
 some ((⟨a0.up,false,a0.version,0,(⟨0,0,([]:List Int),([]:List Int)⟩:mt),0,([]:List pS),0,([]:List pS)⟩:oU),())
def Ta[dp] :=C4 199 Tryz.f199 SA Yq (λx=>Kv x.1) [] [] (by kernel_rfl) λx=>by simp only[Kv,tm];kernel_rfl
def H7(a0:oQ)(a1:Int):Option (oQ×Int×Unit):=
 (C7 a0).bind λy1=>(GO a0 a1).bind λy2=>br (!y2.1) (some (y1.1,1,())) (iteP (0<=a1) ((a0.servers[a1.toNat]?).bind λx3=>(Kv x3).bind λy4=>iteP (0<=a1/\a1< (y1.1.servers.length:Int)) ((y1.1.servers[a1.toNat]?).bind λ_=>some ((⟨y1.1.now,(y1.1.servers.set a1.toNat y4.1),y1.1.sides,y1.1.master,y1.1.masterUp,y1.1.lease,y1.1.places⟩:oQ),0,())) none) none)
def QL[dp] :=C4 130 Tryz.f130 K1 MU (λx=>H7 x.1 x.2.1) [DF,LY,Ta] [] (by kernel_rfl) λx=>by simp only[H7,tm];kernel_rfl
def KO(a0:List Int)(a1:Int)(a2:Int):Option ((List Int)×Bool×Unit):=
 iteP ((([]:List Int)++a0).length*8<=2 ^ 40) ((EP a0).bind λy1=>br (!y1.1) (some ((([]:List Int)++a0),false,())) ((CM a1 0 4).bind λy2=>br (!y2.1) (some ((([]:List Int)++a0),false,())) ((CM a2 0 3).bind λy3=>br (!y3.1) (some ((([]:List Int)++a0),false,())) (iteP (0<=a1/\a1< ((([]:List Int)++a0).length:Int)) (((([]:List Int)++a0)[a1.toNat]?).bind λ_=>some (((([]:List Int)++a0).set a1.toNat a2),true,())) none)))) none
def UV[dp] :=C4 297 Tryz.f297 Xo [.ls (.i .i64),.b] (λx=>KO x.1 x.2.1 x.2.2.1) [Mr,Ds] [] (by kernel_rfl) λx=>by simp only[KO,tm];kernel_rfl
def IM(a0:oQ)(a1:Int)(a2:Int):Option (oQ×Int×Unit):=
 (C7 a0).bind λy1=>(KO a0.sides a1 a2).bind λy2=>(CC a0).bind λy3=>br (!y3.1) (some (y1.1,1,())) (br (!y2.2.1) (some (y1.1,1,())) (some ((⟨y1.1.now,y1.1.servers,y2.1,y1.1.master,y1.1.masterUp,y1.1.lease,y1.1.places⟩:oQ),0,())))
def S4[dp] :=C4 277 Tryz.f277 Q6 MU (λx=>IM x.1 x.2.1 x.2.2.1) [DF,UV,CN] [] (by kernel_rfl) λx=>by simp only[IM,tm];kernel_rfl
def IT(a0:oQ)(a1:Int):Option (oQ×Int×Unit):=
 (C7 a0).bind λy1=>(CC a0).bind λy2=>br (!y2.1) (some (y1.1,1,())) ((CM a1 0 3).bind λy3=>br (!y3.1) (some (y1.1,1,())) (some ((⟨y1.1.now,y1.1.servers,y1.1.sides,y1.1.master,a1,y1.1.lease,y1.1.places⟩:oQ),0,())))
def S8[dp] :=C4 278 Tryz.f278 K1 MU (λx=>IT x.1 x.2.1) [DF,CN,Ds] [] (by kernel_rfl) λx=>by simp only[IT,tm];kernel_rfl
def Jh(a0:oQ)(a1:Int):Option (oQ×Int×Unit):=
 (C7 a0).bind λy1=>(CC a0).bind λy2=>br (!y2.1) (some (y1.1,1,())) ((CM a1 0 (aaV .i64 (999-a0.now))).bind λy3=>br (!y3.1) (some (y1.1,1,())) (some ((⟨(aaV .i64 (a0.now+a1)),y1.1.servers,y1.1.sides,y1.1.master,y1.1.masterUp,y1.1.lease,y1.1.places⟩:oQ),0,())))
def QM[dp] :=C4 279 Tryz.f279 K1 MU (λx=>Jh x.1 x.2.1) [DF,CN,Ds] [] (by kernel_rfl) λx=>by simp only[Jh,tm];kernel_rfl
def JY(a0:oQ)(a1:Int)(a2:Int):Option (Bool×Unit):=
 (CC a0).bind λy1=>br (!y1.1) (some (false,())) ((Ez a0.sides a1 a2).bind λy2=>br (!y2.1) (some (false,())) (br (a1==a2) (some (false,())) (iteP (0<=a1) ((a0.servers[a1.toNat]?).bind λx3=>(Dm x3.config a1).bind λy4=>br x3.up (iteP (0<=a2) ((a0.servers[a2.toNat]?).bind λx5=>br x5.up (br (y4.1==1) (br (x3.config.epoch==a0.master.activated) ((Dm x3.config a2).bind λy6=>some ((y6.1==0),())) (some (false,()))) (br (y4.1==2) (br (x3.config.epoch==a0.master.activated) ((Dm x3.config a2).bind λy7=>some ((y7.1==0),())) (some (false,()))) (some (false,())))) (some (false,()))) none) (some (false,()))) none)))
def T9[dp] :=C4 305 Tryz.f305 Q6 [.b] (λx=>JY x.1 x.2.1 x.2.2.1) [CN,Jn,LW] [] (by kernel_rfl) λx=>by simp only[JY,tm];kernel_rfl
abbrev LF:LX:=⟨⟨[(0,.cl (.int .i64)),VP,N2],[],[],0,31⟩,[(.ext 0,⟨[VP,N2],[],[],0,31⟩)],[],[0,3,4],[3,4]⟩
def JB(s: (Int×ByteArray×Bool×Unit)×Unit×Unit):LF.R:=
 br (!(s.1.1==0)) (let j5 (p4:Int):LF.R:=iteP (0< ([(aaV .u8 (aaV .i64 (48+p4)))]:List Int).length/\0+([(aaV .u8 (aaV .i64 (48+p4)))]:List Int).length<=([(aaV .u8 (aaV .i64 (48+p4)))]:List Int).length) (iteP ((zO ((([(aaV .u8 (aaV .i64 (48+p4)))]:List Int).drop 0).take (([(aaV .u8 (aaV .i64 (48+p4)))]:List Int).length))).size+s.1.2.1.size<=2 ^ 40) (some (.inl (((aaV .i64 (Int.tdiv s.1.1 10)),((zO ((([(aaV .u8 (aaV .i64 (48+p4)))]:List Int).drop 0).take (([(aaV .u8 (aaV .i64 (48+p4)))]:List Int).length)))++s.1.2.1),s.1.2.2),(()),(())))) none) none;br (decide ((Int.tmod s.1.1 10)<0)) (j5 (aaV .i64 (0-(Int.tmod s.1.1 10)))) (j5 (Int.tmod s.1.1 10))) (some (.inr (s.1.2,(()),(()))))
def R3:=mh JB
def Sd[dp] :=FM Tryz.f313 [0] LF JB [] [] (by kernel_rfl) λs=>by simp only[JB,tm];kernel_rfl
def EG(a0:Int):Option (ByteArray×Unit):=
 br (a0==0) (some ((⟨⟨[48]⟩⟩:ByteArray),())) ((R3 ((a0,ByteArray.empty,(decide (a0<0)),()),(()),(()))).bind λe6=>br e6.1.2.1 (iteP ((⟨⟨[45]⟩⟩:ByteArray).size+e6.1.1.size<=2 ^ 40) (some (((⟨⟨[45]⟩⟩:ByteArray)++e6.1.1),())) none) (some (e6.1.1,())))
def PH[dp] :=C4 313 Tryz.f313 Tj [.s] (λx=>EG x.1) [] [Sd] (by kernel_rfl) λx=>by simp only[EG,tm];kernel_rfl
def KM(a0:Op):Option (ByteArray×Unit):=
 (Dl a0).bind λy1=>br (!y1.1) (some (ByteArray.empty,())) ((EG a0.client).bind λy2=>iteP (y2.1.size+(⟨⟨[46]⟩⟩:ByteArray).size<=2 ^ 40) ((EG a0.seq).bind λy3=>iteP ((y2.1++(⟨⟨[46]⟩⟩:ByteArray)).size+y3.1.size<=2 ^ 40) (iteP (((y2.1++(⟨⟨[46]⟩⟩:ByteArray))++y3.1).size+(⟨⟨[32]⟩⟩:ByteArray).size<=2 ^ 40) (br (a0.kind==1) (iteP ((((y2.1++(⟨⟨[46]⟩⟩:ByteArray))++y3.1)++(⟨⟨[32]⟩⟩:ByteArray)).size+(⟨⟨[119,114,105,116,101,32]⟩⟩:ByteArray).size<=2 ^ 40) ((EG a0.object).bind λy4=>iteP (((((y2.1++(⟨⟨[46]⟩⟩:ByteArray))++y3.1)++(⟨⟨[32]⟩⟩:ByteArray))++(⟨⟨[119,114,105,116,101,32]⟩⟩:ByteArray)).size+y4.1.size<=2 ^ 40) (iteP ((((((y2.1++(⟨⟨[46]⟩⟩:ByteArray))++y3.1)++(⟨⟨[32]⟩⟩:ByteArray))++(⟨⟨[119,114,105,116,101,32]⟩⟩:ByteArray))++y4.1).size+(⟨⟨[32]⟩⟩:ByteArray).size<=2 ^ 40) ((EG a0.value).bind λy5=>iteP (((((((y2.1++(⟨⟨[46]⟩⟩:ByteArray))++y3.1)++(⟨⟨[32]⟩⟩:ByteArray))++(⟨⟨[119,114,105,116,101,32]⟩⟩:ByteArray))++y4.1)++(⟨⟨[32]⟩⟩:ByteArray)).size+y5.1.size<=2 ^ 40) (some ((((((((y2.1++(⟨⟨[46]⟩⟩:ByteArray))++y3.1)++(⟨⟨[32]⟩⟩:ByteArray))++(⟨⟨[119,114,105,116,101,32]⟩⟩:ByteArray))++y4.1)++(⟨⟨[32]⟩⟩:ByteArray))++y5.1),())) none) none) none) none) (iteP ((((y2.1++(⟨⟨[46]⟩⟩:ByteArray))++y3.1)++(⟨⟨[32]⟩⟩:ByteArray)).size+(⟨⟨[115,119,97,112,32]⟩⟩:ByteArray).size<=2 ^ 40) ((EG a0.object).bind λy6=>iteP (((((y2.1++(⟨⟨[46]⟩⟩:ByteArray))++y3.1)++(⟨⟨[32]⟩⟩:ByteArray))++(⟨⟨[115,119,97,112,32]⟩⟩:ByteArray)).size+y6.1.size<=2 ^ 40) (iteP ((((((y2.1++(⟨⟨[46]⟩⟩:ByteArray))++y3.1)++(⟨⟨[32]⟩⟩:ByteArray))++(⟨⟨[115,119,97,112,32]⟩⟩:ByteArray))++y6.1).size+(⟨⟨[32]⟩⟩:ByteArray).size<=2 ^ 40) ((EG a0.old).bind λy7=>iteP (((((((y2.1++(⟨⟨[46]⟩⟩:ByteArray))++y3.1)++(⟨⟨[32]⟩⟩:ByteArray))++(⟨⟨[115,119,97,112,32]⟩⟩:ByteArray))++y6.1)++(⟨⟨[32]⟩⟩:ByteArray)).size+y7.1.size<=2 ^ 40) (iteP ((((((((y2.1++(⟨⟨[46]⟩⟩:ByteArray))++y3.1)++(⟨⟨[32]⟩⟩:ByteArray))++(⟨⟨[115,119,97,112,32]⟩⟩:ByteArray))++y6.1)++(⟨⟨[32]⟩⟩:ByteArray))++y7.1).size+(⟨⟨[32]⟩⟩:ByteArray).size<=2 ^ 40) ((EG a0.value).bind λy8=>iteP (((((((((y2.1++(⟨⟨[46]⟩⟩:ByteArray))++y3.1)++(⟨⟨[32]⟩⟩:ByteArray))++(⟨⟨[115,119,97,112,32]⟩⟩:ByteArray))++y6.1)++(⟨⟨[32]⟩⟩:ByteArray))++y7.1)++(⟨⟨[32]⟩⟩:ByteArray)).size+y8.1.size<=2 ^ 40) (some ((((((((((y2.1++(⟨⟨[46]⟩⟩:ByteArray))++y3.1)++(⟨⟨[32]⟩⟩:ByteArray))++(⟨⟨[115,119,97,112,32]⟩⟩:ByteArray))++y6.1)++(⟨⟨[32]⟩⟩:ByteArray))++y7.1)++(⟨⟨[32]⟩⟩:ByteArray))++y8.1),())) none) none) none) none) none) none)) none) none) none)
def UT[dp] :=C4 314 Tryz.f314 Uh [.s] (λx=>KM x.1) [J3,PH] [] (by kernel_rfl) λx=>by simp only[KM,tm];kernel_rfl
abbrev LG:LX:=⟨⟨[Kl,VP,Lf],[],[],0,38⟩,[(.ext 0,⟨[VP],[],[],0,38⟩)],[],[0,3,4],[3]⟩
def JC(s: (List pS×ByteArray×Int×Unit)×Unit×Unit):LG.R:=
 br (decide (s.1.2.2.1< (s.1.1.length:Int))) (let j10 (p5:ByteArray):LG.R:=iteP (0<=s.1.2.2.1) ((s.1.1[s.1.2.2.1.toNat]?).bind λx6=>(EG x6.epoch).bind λy7=>iteP (p5.size+y7.1.size<=2 ^ 40) (iteP ((p5++y7.1).size+(⟨⟨[58]⟩⟩:ByteArray).size<=2 ^ 40) (iteP (0<=s.1.2.2.1) ((s.1.1[s.1.2.2.1.toNat]?).bind λx8=>(KM x8.op).bind λy9=>iteP (((p5++y7.1)++(⟨⟨[58]⟩⟩:ByteArray)).size+y9.1.size<=2 ^ 40) (some (.inl ((s.1.1,(((p5++y7.1)++(⟨⟨[58]⟩⟩:ByteArray))++y9.1),(aaV .i64 (s.1.2.2.1+1)),()),(()),(())))) none) none) none) none) none;br (decide (s.1.2.2.1>0)) (iteP (s.1.2.1.size+(⟨⟨[59]⟩⟩:ByteArray).size<=2 ^ 40) (j10 (s.1.2.1++(⟨⟨[59]⟩⟩:ByteArray))) none) (j10 s.1.2.1)) (some (.inr ((s.1.2.1,()),(()),(()))))
def R4:=mh JC
def Se[dp] :=FM Tryz.f312 [0] LG JC [PH,UT] [] (by kernel_rfl) λs=>by simp only[JC,tm];kernel_rfl
def JS(a0:List pS):Option (ByteArray×Unit):=
 (Dk a0).bind λy1=>br (!y1.1) (some (ByteArray.empty,())) (br ((a0.length:Int)==0) (some ((⟨⟨[110,111,110,101]⟩⟩:ByteArray),())) ((R4 ((a0,ByteArray.empty,0,()),(()),(()))).bind λe11=>some e11.1))
def T0[dp] :=C4 312 Tryz.f312 Ot [.s] (λx=>JS x.1) [Kz] [Se] (by kernel_rfl) λx=>by simp only[JS,tm];kernel_rfl
abbrev O5:LX:=⟨⟨[(0,.cl (.str)),K3,Lf],[],[],0,21⟩,[(.ext 0,⟨[K3],[],[],0,21⟩)],[],[0,3,4],[3]⟩
def Kr(s: (ByteArray×Int×Int×Unit)×Unit×Unit):O5.R:=
 br (decide (s.1.2.2.1< (s.1.1.size:Int))) (iteP (0<=s.1.2.2.1) ((s.1.1[s.1.2.2.1.toNat]?).bind λx4=>some (.inl ((s.1.1,(Int.tmod (aaV .i64 ((aaV .i64 ((aaV .i64 (s.1.2.1*257))+(aaV .i64 (x4.toNat:Int))))+1)) 9949),(aaV .i64 (s.1.2.2.1+1)),()),(()),(())))) none) (some (.inr ((s.1.2.1,()),(()),(()))))
def Th:=mh Kr
def Tw[dp] :=FM Tryz.f311 [0] O5 Kr [] [] (by kernel_rfl) λs=>by simp only[Kr,tm];kernel_rfl
def KK(a0:ByteArray):Option (Int×Unit):=
 (Th ((a0,5,0,()),(()),(()))).bind λe5=>some e5.1
def UR[dp] :=C4 311 Tryz.f311 [.ty (.s)] HS (λx=>KK x.1) [] [Tw] (by kernel_rfl) λx=>by simp only[KK,tm];kernel_rfl
abbrev Nr:LX:=⟨⟨[Kl,SD,Lf,LC],[],GG,0,37⟩,[(.ext 0,⟨[SD],[],GG,0,37⟩)],[],[0,3,4,5],[3]⟩
def Iv(s:Zr×Unit×List Int×Unit):Nr.R:=
 br (decide (s.1.2.2.2.1< (s.1.1.length:Int))) (iteP (0<=s.1.2.2.2.1/\s.1.2.2.2.1<=(aaV .i64 (s.1.2.2.2.1+1))/\(aaV .i64 (s.1.2.2.2.1+1))<=(s.1.1.length:Int)) ((JS ((s.1.1.drop s.1.2.2.2.1.toNat).take ((aaV .i64 (s.1.2.2.2.1+1)).toNat-s.1.2.2.2.1.toNat))).bind λy6=>(KK y6.1).bind λy7=>iteP ((s.2.2.1++([(Int.tmod (aaV .i64 ((aaV .i64 (s.1.2.2.1*31))+y7.1)) 9973)]:List Int)).length*8<=2 ^ 40) (some (.inl ((s.1.1,(),(Int.tmod (aaV .i64 ((aaV .i64 (s.1.2.2.1*31))+y7.1)) 9973),(aaV .i64 (s.1.2.2.2.1+1)),()),(()),(s.2.2.1++([(Int.tmod (aaV .i64 ((aaV .i64 (s.1.2.2.1*31))+y7.1)) 9973)]:List Int)),()))) none) none) (some (.inr (((),()),(()),s.2.2)))
def Q0:=mh Iv
def Rs[dp] :=FM Tryz.f310 [0] Nr Iv [T0,UR] [] (by kernel_rfl) λs=>by simp only[Iv,tm];kernel_rfl
def IJ(a0:List pS):Option ((List Int)×Unit):=
 (Dk a0).bind λy1=>br (!y1.1) (some (([]:List Int),())) (iteP ((([]:List Int)++([11]:List Int)).length*8<=2 ^ 40) ((Q0 ((a0,(),11,0,()),(()),(([]:List Int)++([11]:List Int)),())).bind λe8=>some e8.2.2) none)
def SU[dp] :=C4 310 Tryz.f310 Ot Jt (λx=>IJ x.1) [Kz] [Rs] (by kernel_rfl) λx=>by simp only[IJ,tm];kernel_rfl
def Jg(a0:List pS)(a1:Int):Option (Int×Unit):=
 (IJ a0).bind λy1=>(CM a1 0 (aaV .i64 ((y1.1.length:Int)-1))).bind λy2=>br (!y2.1) (some ((-1),())) (iteP (0<=a1/\a1< (y1.1.length:Int)) ((y1.1[a1.toNat]?).bind λx3=>some (x3,())) none)
def QI[dp] :=C4 309 Tryz.f309 Xp HS (λx=>Jg x.1 x.2.1) [SU,Ds] [] (by kernel_rfl) λx=>by simp only[Jg,tm];kernel_rfl
def H0(a0:oU):Option (Int×Unit):=
 (Jg a0.learned (a0.learned.length:Int)).bind λy1=>some (y1.1,())
def P5[dp] :=C4 307 Tryz.f307 SA HS (λx=>H0 x.1) [QI] [] (by kernel_rfl) λx=>by simp only[H0,tm];kernel_rfl
def IQ(a0:List pS)(a1:Int)(a2:Int):Option (Bool×Unit):=
 br (decide (a2≥0)) ((Jg a0 a1).bind λy1=>some ((y1.1==a2),())) (some (false,()))
def QN[dp] :=C4 306 Tryz.f306 Y0 [.b] (λx=>IQ x.1 x.2.1 x.2.2.1) [QI] [] (by kernel_rfl) λx=>by simp only[IQ,tm];kernel_rfl
def HE(a0:oQ)(a1:Int)(a2:Int):Option (Int×Unit):=
 (JY a0 a1 a2).bind λy1=>br (!y1.1) (some ((-1),())) (iteP (0<=a1) ((a0.servers[a1.toNat]?).bind λx2=>(Df x2).bind λy3=>iteP (0<=a2) ((a0.servers[a2.toNat]?).bind λx4=>iteP (0<=a2) ((a0.servers[a2.toNat]?).bind λx5=>(H0 x5).bind λy6=>(IQ y3.1 (x4.learned.length:Int) y6.1).bind λy7=>br (!y7.1) (some ((aaV .i64 ((y3.1.length:Int)-0)),())) (some ((aaV .i64 ((y3.1.length:Int)-(x4.learned.length:Int))),()))) none) none) none)
def RS[dp] :=C4 298 Tryz.f298 Q6 HS (λx=>HE x.1 x.2.1 x.2.2.1) [T9,H3,P5,QN] [] (by kernel_rfl) λx=>by simp only[HE,tm];kernel_rfl
def HF(a0:oQ)(a1:Int)(a2:Int)(a3:Int):Option (oQ×Int×Unit):=
 (C7 a0).bind λy1=>(HE a0 a1 a2).bind λy2=>br (decide (y2.1<0)) (some (y1.1,0,())) ((CM a3 1 4).bind λy3=>br (!y3.1) (some (y1.1,0,())) (iteP (0<=a1) ((a0.servers[a1.toNat]?).bind λx4=>(Df x4).bind λy5=>iteP (0<=(0:Int)/\(0:Int)<=(aaV .i64 ((aaV .i64 ((y5.1.length:Int)-y2.1))+(if a3<y2.1 then a3 else y2.1)))/\(aaV .i64 ((aaV .i64 ((y5.1.length:Int)-y2.1))+(if a3<y2.1 then a3 else y2.1)))<=((y5.1.length:Nat):Int)) (iteP ((0+(0:Int).toNat)+((aaV .i64 ((aaV .i64 ((y5.1.length:Int)-y2.1))+(if a3<y2.1 then a3 else y2.1))).toNat-(0:Int).toNat)<=y5.1.length) ((DP ((y5.1.drop (0+(0:Int).toNat)).take ((aaV .i64 ((aaV .i64 ((y5.1.length:Int)-y2.1))+(if a3<y2.1 then a3 else y2.1))).toNat-(0:Int).toNat))).bind λy6=>iteP (0<=a2/\a2< (y1.1.servers.length:Int)) ((y1.1.servers[a2.toNat]?).bind λx7=>some ((⟨y1.1.now,(y1.1.servers.set a2.toNat (⟨x7.up,x7.intact,x7.version,x7.epoch,x7.config,x7.first,x7.log,x7.commit,y6.1⟩:oU)),y1.1.sides,y1.1.master,y1.1.masterUp,y1.1.lease,y1.1.places⟩:oQ),(if a3<y2.1 then a3 else y2.1),())) none) none) none) none))
def RT[dp] :=C4 280 Tryz.f280 [.ty (.st .cluster),.ty (.i .i64),.ty (.i .i64),.ty (.i .i64)] MU (λx=>HF x.1 x.2.1 x.2.2.1 x.2.2.2.1) [DF,RS,Ds,H3,He] [] (by kernel_rfl) λx=>by simp only[HF,tm];kernel_rfl
def GD(a0:oQ)(a1:Int):Option (oQ×Int×Unit):=
 (C7 a0).bind λy1=>(GO a0 a1).bind λy2=>br (!y2.1) (some (y1.1,1,())) (iteP (0<=a1) ((a0.servers[a1.toNat]?).bind λx3=>br (x3.version==2) (some (y1.1,1,())) (iteP (0<=a1) ((a0.servers[a1.toNat]?).bind λx4=>br (!x4.up) (some (y1.1,2,())) (iteP (0<=a1/\a1< (y1.1.servers.length:Int)) ((y1.1.servers[a1.toNat]?).bind λx5=>some ((⟨y1.1.now,(y1.1.servers.set a1.toNat (⟨x5.up,x5.intact,2,x5.epoch,x5.config,x5.first,x5.log,x5.commit,x5.learned⟩:oU)),y1.1.sides,y1.1.master,y1.1.masterUp,y1.1.lease,y1.1.places⟩:oQ),0,())) none)) none)) none)
def P8[dp] :=C4 281 Tryz.f281 K1 MU (λx=>GD x.1 x.2.1) [DF,LY] [] (by kernel_rfl) λx=>by simp only[GD,tm];kernel_rfl
def Dy(a0:List pS):Option (Bool×Unit):=
 (DH a0).bind λy1=>some (y1.1,())
def KU[dp] :=C4 67 Tryz.f67 Ot [.b] (λx=>Dy x.1) [KV] [] (by kernel_rfl) λx=>by simp only[Dy,tm];kernel_rfl
abbrev Hj:LX:=⟨⟨[KC,Mu,SB,(6,.cl (.ptr 2 0)),Xr,Nj],[I5,KD,Vf,ZA],XJ,0,80⟩,[(.ret,⟨[KC,N3,LC,MI],[Vf,Vf],XJ,0,80⟩),(.ext 0,⟨[KC,N3,(5,.cl (.dead)),MI],[KD,Vf],XJ,0,80⟩)],[],[1,2,4,6,7,8],[1,4,5,6]⟩
def FN(s: (Int×Unit×Unit×Unit×Unit×Int×Unit)×(L8×Lh×Lh×Zq×Unit)×List oU×List Int×List mt×List sV×Unit):Hj.R:=
 br (decide (s.1.2.2.2.2.2.1< (s.2.1.1.2.1.length:Int))) ((GN (⟨s.2.1.2.2.2.1.2.2.2.2.1,s.2.1.2.2.2.1.2.2.2.2.2.1,s.2.1.2.2.2.1.2.2.2.2.2.2.1,s.2.1.2.2.2.1.2.2.2.2.2.2.2.1⟩:mt)).bind λy47=>br (!y47.1) (iteP (0<=s.1.2.2.2.2.2.1) ((s.2.1.1.2.1[s.1.2.2.2.2.2.1.toNat]?).bind λx48=>(Ew x48.config (⟨s.2.1.2.2.2.1.2.2.2.2.1,s.2.1.2.2.2.1.2.2.2.2.2.1,s.2.1.2.2.2.1.2.2.2.2.2.2.1,s.2.1.2.2.2.1.2.2.2.2.2.2.2.1⟩:mt)).bind λy49=>let j52:Hj.R:=some (.inl ((s.1.1,(),(),(),(),(aaV .i64 (s.1.2.2.2.2.2.1+1)),()),s.2));br y49.1 (iteP (0<=s.1.2.2.2.2.2.1) ((s.2.1.1.2.1[s.1.2.2.2.2.2.1.toNat]?).bind λx50=>(Dy x50.log).bind λy51=>br y51.1 (some (.inr (.inl ((s.1.1,(),6,(),()),(s.2.1.2.2.1,s.2.1.2.2.1,()),s.2.2)))) (j52)) none) (j52)) none) (some (.inr (.inr ((s.1.1,(),(),(),()),(s.2.1.2.1,s.2.1.2.2.1,()),s.2.2))))) (some (.inr (.inr ((s.1.1,(),(),(),()),(s.2.1.2.1,s.2.1.2.2.1,()),s.2.2))))
def Ng:=mh FN
def Nx[dp] :=FM Tryz.f282 [0] Hj FN [KU,NI,IZ] [] (by kernel_rfl) λs=>by simp only[FN,tm];kernel_rfl
def FS(a0:oQ)(a1:Int):Option (oQ×Int×Unit):=
 (C7 a0).bind λy1=>(GO a0 a1).bind λy2=>br (!y2.1) (some (y1.1,1,())) (iteP (0<=a1) ((a0.servers[a1.toNat]?).bind λx3=>br (x3.version==1) (some (y1.1,1,())) (iteP (0<=a1) ((a0.servers[a1.toNat]?).bind λx4=>br (!x4.up) (some (y1.1,2,())) (iteP (0<=a1) ((a0.servers[a1.toNat]?).bind λx5=>(Dy x5.learned).bind λy6=>br y6.1 (some (y1.1,6,())) ((Ng ((a1,(),(),(),(),0,()),((a0.now,a0.servers,a0.sides,a0.master.configs,a0.master.activated,a0.masterUp,a0.lease.epoch,a0.lease.holder,a0.lease.ends,a0.places,()),(0,(),(),(),0,0,0,0,0,(),()),(y1.1.now,(),(),(),y1.1.master.activated,y1.1.masterUp,y1.1.lease.epoch,y1.1.lease.holder,y1.1.lease.ends,(),()),(x5.up,x5.intact,x5.version,x5.epoch,x5.config.epoch,x5.config.primary,x5.config.replicas,x5.config.witnesses,x5.first,x5.log,x5.commit,x5.learned,()),()),y1.1.servers,y1.1.sides,y1.1.master.configs,y1.1.places,())).bind λe53=>Sum.elim (λe53_0=>some ((⟨e53_0.2.1.1.1,e53_0.2.2.1,e53_0.2.2.2.1,(⟨e53_0.2.2.2.2.1,e53_0.2.1.1.2.2.2.2.1⟩:jr),e53_0.2.1.1.2.2.2.2.2.1,(⟨e53_0.2.1.1.2.2.2.2.2.2.1,e53_0.2.1.1.2.2.2.2.2.2.2.1,e53_0.2.1.1.2.2.2.2.2.2.2.2.1⟩:sS),e53_0.2.2.2.2.2.1⟩:oQ),e53_0.1.2.2.1,())) (λe53_1=>iteP (0<=e53_1.1.1/\e53_1.1.1< (e53_1.2.2.1.length:Int)) ((e53_1.2.2.1[e53_1.1.1.toNat]?).bind λx54=>some ((⟨e53_1.2.1.2.1.1,(e53_1.2.2.1.set e53_1.1.1.toNat (⟨x54.up,x54.intact,1,x54.epoch,x54.config,x54.first,x54.log,x54.commit,x54.learned⟩:oU)),e53_1.2.2.2.1,(⟨e53_1.2.2.2.2.1,e53_1.2.1.2.1.2.2.2.2.1⟩:jr),e53_1.2.1.2.1.2.2.2.2.2.1,(⟨e53_1.2.1.2.1.2.2.2.2.2.2.1,e53_1.2.1.2.1.2.2.2.2.2.2.2.1,e53_1.2.1.2.1.2.2.2.2.2.2.2.2.1⟩:sS),e53_1.2.2.2.2.2.1⟩:oQ),0,())) none) e53)) none)) none)) none)
def OP[dp] :=C4 282 Tryz.f282 K1 MU (λx=>FS x.1 x.2.1) [DF,LY,KU] [Nx] (by kernel_rfl) λx=>by simp only[FS,tm];kernel_rfl
abbrev La:LX:=⟨⟨[HQ,Nh,L7,NQ],[I5,XH],ZF,0,64⟩,[(.ret,⟨[O1,Q7],[XG],Yz,0,64⟩),(.ext 0,⟨[Nl,Q7],[XG],Yz,0,64⟩)],[],[1,3,5,6],[2,3]⟩
def DY(s:XA×(L8×Rc×Unit)×List Int×List Int×List Int×Unit):La.R:=
 br (decide (s.1.2.2.2.1< (s.2.2.1.length:Int))) (iteP (0<=s.1.2.2.2.1/\s.1.2.2.2.1< (s.2.2.1.length:Int)) ((s.2.2.1[s.1.2.2.2.1.toNat]?).bind λx23=>(ET (⟨s.2.1.1.1,s.2.1.1.2.1,s.2.1.1.2.2.1,(⟨s.2.1.1.2.2.2.1,s.2.1.1.2.2.2.2.1⟩:jr),s.2.1.1.2.2.2.2.2.1,(⟨s.2.1.1.2.2.2.2.2.2.1,s.2.1.1.2.2.2.2.2.2.2.1,s.2.1.1.2.2.2.2.2.2.2.2.1⟩:sS),s.2.1.1.2.2.2.2.2.2.2.2.2.1⟩:oQ) s.2.1.2.1.2.1 x23).bind λy24=>br (!y24.1) (some (.inr (.inl (((-1),(),()),s.2.1.2,s.2.2.2)))) (some (.inl (((),(),(),(aaV .i64 (s.1.2.2.2.1+1)),()),s.2)))) none) (some (.inr (.inr (((),(),()),s.2.1.2,s.2.2.2))))
def Ic:=mh DY
def OB[dp] :=FM Tryz.f308 [0] La DY [QR] [] (by kernel_rfl) λs=>by simp only[DY,tm];kernel_rfl
def Dh(a0:oQ):Option (Int×Unit):=
 (CK a0.master).bind λy1=>(CC a0).bind λy2=>br (!y2.1) (some ((-1),())) (br (!y1.2.1) (some ((-1),())) (iteP (0<=y1.1.primary) ((a0.servers[y1.1.primary.toNat]?).bind λx3=>(CT x3 y1.1.primary).bind λy4=>br (!y4.1) (some ((-1),())) (iteP (0<=y1.1.primary) ((a0.servers[y1.1.primary.toNat]?).bind λx5=>br (!(x5.config.epoch==y1.1.epoch)) (some ((-1),())) ((C5 y1.1).bind λy6=>(Ic (((),(),(),0,()),((a0.now,a0.servers,a0.sides,a0.master.configs,a0.master.activated,a0.masterUp,a0.lease.epoch,a0.lease.holder,a0.lease.ends,a0.places,()),(y1.1.epoch,y1.1.primary,(),(),()),()),y6.1,y1.1.replicas,y1.1.witnesses,())).bind λe25=>Sum.elim (λe25_0=>some (e25_0.1.1,())) (λe25_1=>some (e25_1.2.1.1.2.1,())) e25)) none)) none))
def Pk[dp] :=C4 308 Tryz.f308 L5 HS (λx=>Dh x.1) [D4,CN,Hb,Hc] [OB] (by kernel_rfl) λx=>by simp only[Dh,tm];kernel_rfl
def Ed(a0:oQ):Option (Bool×Unit):=
 (Dh a0).bind λy1=>some ((decide (y1.1≥0)),())
def PI[dp] :=C4 300 Tryz.f300 L5 [.b] (λx=>Ed x.1) [Pk] [] (by kernel_rfl) λx=>by simp only[Ed,tm];kernel_rfl
def JU(a0:oQ)(a1:Int):Option (Int×Unit):=
 (CK a0.master).bind λy1=>(CC a0).bind λy2=>br (!y2.1) (some (1,())) (br (!y1.2.1) (some (1,())) ((Dj y1.1.replicas a1).bind λy3=>br (!y3.1) (some (1,())) (br (a1==y1.1.primary) (some (1,())) (br (!((a0.master.configs.length:Int)==y1.1.epoch)) (some (1,())) (br (y1.1.epoch==20) (some (1,())) (br (decide ((aaV .i64 (a0.masterUp*2))<=3)) (some (8,())) ((Ed a0).bind λy4=>br (!y4.1) (some (10,())) (iteP (0<=y1.1.primary) ((a0.sides[y1.1.primary.toNat]?).bind λx5=>br (!(x5==0)) (some (10,())) (br (decide (a0.lease.ends>0)) (br (!(a0.lease.holder==y1.1.primary)) (some (7,())) (some (0,()))) (some (0,())))) none))))))))
def T3[dp] :=C4 299 Tryz.f299 K1 HS (λx=>JU x.1 x.2.1) [D4,CN,Fi,PI] [] (by kernel_rfl) λx=>by simp only[JU,tm];kernel_rfl
def GC(a0:oQ)(a1:Int):Option (oQ×Int×Unit):=
 (C7 a0).bind λy1=>(JU a0 a1).bind λy2=>br (!(y2.1==0)) (some (y1.1,y2.1,())) ((CK a0.master).bind λy3=>(FJ a0 y3.1.primary).bind λy4=>(F2 (⟨y4.1.now,y4.1.servers,y4.1.sides,y4.1.master,y4.1.masterUp,(⟨0,0,0⟩:sS),y4.1.places⟩:oQ) (⟨(aaV .i64 (y3.1.epoch+1)),a1,y3.1.replicas,y3.1.witnesses⟩:mt)).bind λy5=>(H6 y5.1).bind λy6=>some (y6.1,y6.2.1,()))
def P7[dp] :=C4 283 Tryz.f283 K1 MU (λx=>GC x.1 x.2.1) [DF,T3,D4,MA,Lw,Ok] [] (by kernel_rfl) λx=>by simp only[GC,tm];kernel_rfl
def HJ(a0:oQ)(a1:Int)(a2:Int):Option (oQ×Int×Unit):=
 (C7 a0).bind λy1=>(CC a0).bind λy2=>br (!y2.1) (some (y1.1,1,())) ((CM a2 1 50).bind λy3=>br (!y3.1) (some (y1.1,1,())) ((Ed a0).bind λy4=>br y4.1 (some (y1.1,0,())) ((Hq a0 a1 0).bind λy5=>br (!y5.2.1) (some (y1.1,10,())) ((F2 a0 y5.1).bind λy6=>br (!(y6.2.1==0)) (some (y1.1,y6.2.1,())) ((Jj a0.lease).bind λy7=>(Jh y6.1 (if (aaV .i64 (y7.1-a0.now))>0 then (aaV .i64 (y7.1-a0.now)) else 0)).bind λy8=>br (!(y8.2.1==0)) (some (y1.1,y8.2.1,())) ((H6 y8.1).bind λy9=>br (!(y9.2.1==0)) (some (y9.1,y9.2.1,())) ((Hs y9.1 y5.1.primary a2).bind λy10=>some (y10.1,y10.2.1,()))))))))
def RZ[dp] :=C4 284 Tryz.f284 Q6 MU (λx=>HJ x.1 x.2.1 x.2.2.1) [DF,CN,Ds,PI,OS,Lw,QP,QM,Ok,OT] [] (by kernel_rfl) λx=>by simp only[HJ,tm];kernel_rfl
def LR(a0:oQ)(a1:u7):Option (oQ×Int×Unit):=
 let j28 (p17:Int) (p18:List oU) (p19:List Int) (p20:List mt) (p21:Int) (p22:Int) (p23:Int) (p24:Int) (p25:Int) (p26:List sV) (p27:Int):Option (oQ×Int×Unit):=some ((⟨p17,p18,p19,(⟨p20,p21⟩:jr),p22,(⟨p23,p24,p25⟩:sS),p26⟩:oQ),p27,());br (a1.kind==3) ((Hs a0 a1.server a1.n).bind λy1=>j28 y1.1.now y1.1.servers y1.1.sides y1.1.master.configs y1.1.master.activated y1.1.masterUp y1.1.lease.epoch y1.1.lease.holder y1.1.lease.ends y1.1.places y1.2.1) (br (a1.kind==4) ((Hq a0 a1.n a1.other).bind λy2=>br (!y2.2.1) ((C7 a0).bind λy3=>some (y3.1,10,())) ((F2 a0 y2.1).bind λy4=>j28 y4.1.now y4.1.servers y4.1.sides y4.1.master.configs y4.1.master.activated y4.1.masterUp y4.1.lease.epoch y4.1.lease.holder y4.1.lease.ends y4.1.places y4.2.1)) (br (a1.kind==5) ((H6 a0).bind λy5=>j28 y5.1.now y5.1.servers y5.1.sides y5.1.master.configs y5.1.master.activated y5.1.masterUp y5.1.lease.epoch y5.1.lease.holder y5.1.lease.ends y5.1.places y5.2.1) (br (a1.kind==6) ((HG a0 a1.server).bind λy6=>j28 y6.1.now y6.1.servers y6.1.sides y6.1.master.configs y6.1.master.activated y6.1.masterUp y6.1.lease.epoch y6.1.lease.holder y6.1.lease.ends y6.1.places y6.2.1) (br (a1.kind==7) ((GB a0 a1.server).bind λy7=>j28 y7.1.now y7.1.servers y7.1.sides y7.1.master.configs y7.1.master.activated y7.1.masterUp y7.1.lease.epoch y7.1.lease.holder y7.1.lease.ends y7.1.places y7.2.1) (br (a1.kind==8) ((H7 a0 a1.server).bind λy8=>j28 y8.1.now y8.1.servers y8.1.sides y8.1.master.configs y8.1.master.activated y8.1.masterUp y8.1.lease.epoch y8.1.lease.holder y8.1.lease.ends y8.1.places y8.2.1) (br (a1.kind==9) ((IM a0 a1.server a1.n).bind λy9=>j28 y9.1.now y9.1.servers y9.1.sides y9.1.master.configs y9.1.master.activated y9.1.masterUp y9.1.lease.epoch y9.1.lease.holder y9.1.lease.ends y9.1.places y9.2.1) (br (a1.kind==10) ((IT a0 a1.n).bind λy10=>j28 y10.1.now y10.1.servers y10.1.sides y10.1.master.configs y10.1.master.activated y10.1.masterUp y10.1.lease.epoch y10.1.lease.holder y10.1.lease.ends y10.1.places y10.2.1) (br (a1.kind==11) ((Jh a0 a1.n).bind λy11=>j28 y11.1.now y11.1.servers y11.1.sides y11.1.master.configs y11.1.master.activated y11.1.masterUp y11.1.lease.epoch y11.1.lease.holder y11.1.lease.ends y11.1.places y11.2.1) (br (a1.kind==12) ((HF a0 a1.server a1.other a1.n).bind λy12=>br (y12.2.1==0) (j28 y12.1.now y12.1.servers y12.1.sides y12.1.master.configs y12.1.master.activated y12.1.masterUp y12.1.lease.epoch y12.1.lease.holder y12.1.lease.ends y12.1.places 11) (j28 y12.1.now y12.1.servers y12.1.sides y12.1.master.configs y12.1.master.activated y12.1.masterUp y12.1.lease.epoch y12.1.lease.holder y12.1.lease.ends y12.1.places 0)) (br (a1.kind==13) ((GD a0 a1.server).bind λy13=>j28 y13.1.now y13.1.servers y13.1.sides y13.1.master.configs y13.1.master.activated y13.1.masterUp y13.1.lease.epoch y13.1.lease.holder y13.1.lease.ends y13.1.places y13.2.1) (br (a1.kind==14) ((FS a0 a1.server).bind λy14=>j28 y14.1.now y14.1.servers y14.1.sides y14.1.master.configs y14.1.master.activated y14.1.masterUp y14.1.lease.epoch y14.1.lease.holder y14.1.lease.ends y14.1.places y14.2.1) (br (a1.kind==15) ((GC a0 a1.server).bind λy15=>j28 y15.1.now y15.1.servers y15.1.sides y15.1.master.configs y15.1.master.activated y15.1.masterUp y15.1.lease.epoch y15.1.lease.holder y15.1.lease.ends y15.1.places y15.2.1) ((HJ a0 a1.other a1.n).bind λy16=>j28 y16.1.now y16.1.servers y16.1.sides y16.1.master.configs y16.1.master.activated y16.1.masterUp y16.1.lease.epoch y16.1.lease.holder y16.1.lease.ends y16.1.places y16.2.1)))))))))))))
def Wu[dp] :=C4 252 Tryz.f252 Y8 MU (λx=>LR x.1 x.2.1) [OT,OS,DF,Lw,Ok,RU,P6,QL,S4,S8,QM,RT,P8,OP,P7,RZ] [] (by kernel_rfl) λx=>by simp only[LR,tm];kernel_rfl
def KP(a0:oQ)(a1:u7):Option (oQ×vd×Unit):=
 (CC a0).bind λy1=>br (!y1.1) ((C7 a0).bind λy2=>some (y2.1,(⟨1,(⟨false,0⟩:Result),0⟩:vd),())) ((G4 a1).bind λy3=>br (!y3.1) ((C7 a0).bind λy4=>some (y4.1,(⟨1,(⟨false,0⟩:Result),0⟩:vd),())) (br (a1.kind==1) ((KL a0 a1.server a1.op).bind λy5=>some (y5.1,y5.2.1,())) (br (a1.kind==2) ((C7 a0).bind λy6=>(JT a0 a1.server a1.n).bind λy7=>some (y6.1,y7.1,())) ((LR a0 a1).bind λy8=>some (y8.1,(⟨y8.2.1,(⟨false,0⟩:Result),0⟩:vd),())))))
def UX[dp] :=C4 235 Tryz.f235 Y8 Zv (λx=>KP x.1 x.2.1) [CN,DF,QK,US,T2,Wu] [] (by kernel_rfl) λx=>by simp only[KP,tm];kernel_rfl
abbrev N9:LX:=⟨⟨[(1,.cl (.ro (.st .event))),N3,MI,Zi,Nj],[KD,Um],ZG,0,40⟩,[(.ext 0,⟨[N3,MI,Zi],[KD,Um],ZG,0,40⟩)],[],[1,4,6,7,8],[4,6,7]⟩
def JF(s: (List u7×Unit×Unit×Unit×Int×Unit)×(Lh×Lh×Unit)×List vd×List oU×List Int×List mt×List sV×Unit):N9.R:=
 br (decide (s.1.2.2.2.2.1< (s.1.1.length:Int))) (br (decide (s.1.2.2.2.2.1<60)) (iteP (0<=s.1.2.2.2.2.1) ((s.1.1[s.1.2.2.2.2.1.toNat]?).bind λx21=>(KP (⟨s.2.1.2.1.1,s.2.2.2.1,s.2.2.2.2.1,(⟨s.2.2.2.2.2.1,s.2.1.2.1.2.2.2.2.1⟩:jr),s.2.1.2.1.2.2.2.2.2.1,(⟨s.2.1.2.1.2.2.2.2.2.2.1,s.2.1.2.1.2.2.2.2.2.2.2.1,s.2.1.2.1.2.2.2.2.2.2.2.2.1⟩:sS),s.2.2.2.2.2.2.1⟩:oQ) x21).bind λy22=>iteP ((s.2.2.1++([y22.2.1]:List vd)).length*32<=2 ^ 40) (some (.inl ((s.1.1,(),(),(),(aaV .i64 (s.1.2.2.2.2.1+1)),()),(s.2.1.1,(y22.1.now,(),(),(),y22.1.master.activated,y22.1.masterUp,y22.1.lease.epoch,y22.1.lease.holder,y22.1.lease.ends,(),()),()),(s.2.2.1++([y22.2.1]:List vd)),y22.1.servers,y22.1.sides,y22.1.master.configs,y22.1.places,()))) none) none) (some (.inr (((),(),(),()),s.2)))) (some (.inr (((),(),(),()),s.2)))
def R7:=mh JF
def Sj[dp] :=FM Tryz.f216 [0] N9 JF [UX] [] (by kernel_rfl) λs=>by simp only[JF,tm];kernel_rfl
def JV(a0:oQ)(a1:List u7):Option (oQ×(List vd)×Unit):=
 (C7 a0).bind λy1=>(R7 ((a1,(),(),(),0,()),((0,(),(),(),0,0,0,0,0,(),()),(y1.1.now,(),(),(),y1.1.master.activated,y1.1.masterUp,y1.1.lease.epoch,y1.1.lease.holder,y1.1.lease.ends,(),()),()),([]:List vd),y1.1.servers,y1.1.sides,y1.1.master.configs,y1.1.places,())).bind λe23=>some ((⟨e23.2.1.2.1.1,e23.2.2.2.1,e23.2.2.2.2.1,(⟨e23.2.2.2.2.2.1,e23.2.1.2.1.2.2.2.2.1⟩:jr),e23.2.1.2.1.2.2.2.2.2.1,(⟨e23.2.1.2.1.2.2.2.2.2.2.1,e23.2.1.2.1.2.2.2.2.2.2.2.1,e23.2.1.2.1.2.2.2.2.2.2.2.2.1⟩:sS),e23.2.2.2.2.2.2.1⟩:oQ),e23.2.2.1,())
def T4[dp] :=C4 216 Tryz.f216 [.ty (.st .cluster),.ty (.ls (.st .event))] [.st .cluster,.ls (.st .reply)] (λx=>JV x.1 x.2.1) [DF] [Sj] (by kernel_rfl) λx=>by simp only[JV,tm];kernel_rfl
def IW[dp](a0:List oS):Option ((List oS)×oQ×Unit):=
 (Jl a0).bind λy1=>iteP (y1.1.length=a0.length) ((IP y1.2.1).bind λy2=>(J0 y1.1 14).bind λy3=>iteP (y3.1.length=y1.1.length) ((JV y2.1 y3.2.1).bind λy4=>some (y3.1,y4.1,())) none) none
def Tc[dp] :=PX 185 Tryz.f185 (.st .cur) [] Ul (λl _=>IW l) [QT,S5,Ub,T4] [] (by kernel_rfl) λl x=>by simp only[IW,tm,-eq_self];kernel_rfl
abbrev O6:LX:=⟨⟨[PO,VQ,Lf],[],YA,1,17⟩,[(.ext 0,⟨[VQ],[],YA,1,17⟩)],[],[0,3,4],[3]⟩
def IA[dp](s:Vc×Unit×List oS×List Int×Unit):O6.R:=
 br (decide (s.1.2.2.1<5)) ((CS s.2.2.1 ([0,0,0,1,2]:List Int)).bind λy4=>iteP (y4.1.length=s.2.2.1.length) (iteP ((s.2.2.2.1++([y4.2.1]:List Int)).length*8<=2 ^ 40) (some (.inl (((),(),(aaV .i64 (s.1.2.2.1+1)),()),(()),y4.1,(s.2.2.2.1++([y4.2.1]:List Int)),()))) none) none) (some (.inr (((),()),(()),s.2.2)))
def OZ[dp] :=mh IA
def Tx[dp] :=FM Tryz.f220 [0] O6 IA [D0] [] (by kernel_rfl) λs=>by simp only[IA,tm,-eq_self];kernel_rfl
def KQ[dp](a0:List oS):Option ((List oS)×(List Int)×Unit):=
 (OZ (((),(),0,()),(()),a0,([]:List Int),())).bind λe5=>some e5.2.2
def UY[dp] :=PX 220 Tryz.f220 (.st .cur) [] Jt (λl _=>KQ l) [] [Tx] (by kernel_rfl) λl x=>by simp only[KQ,tm];kernel_rfl
def M4[dp](a0:List oS):Option ((List oS)×(List Int)×Unit):=
 (KQ a0).bind λy1=>iteP (y1.1.length=a0.length) ((CF y1.1 12).bind λy2=>iteP (y2.1.length=y1.1.length) (br (y2.2.1==0) (iteP (0<=(1:Int)/\(1:Int)<=(y1.2.1.length:Int)/\(y1.2.1.length:Int)<=((y1.2.1.length:Nat):Int)) (iteP ((0+(1:Int).toNat)=0/\((y1.2.1.length:Int).toNat-(1:Int).toNat)<=y1.2.1.length) (some (y2.1,(y1.2.1.take ((y1.2.1.length:Int).toNat-(1:Int).toNat)),())) (iteP ((0+(1:Int).toNat)+((y1.2.1.length:Int).toNat-(1:Int).toNat)<=y1.2.1.length) (some (y2.1,((y1.2.1.drop (0+(1:Int).toNat)).take ((y1.2.1.length:Int).toNat-(1:Int).toNat)),())) none)) none) (br (y2.2.1==1) ((CS y2.1 ([(-1),3,4]:List Int)).bind λy3=>iteP (y3.1.length=y2.1.length) (iteP (0<=(1:Int)/\(1:Int)< (y1.2.1.length:Int)) ((y1.2.1[(1:Int).toNat]?).bind λ_=>some (y3.1,(y1.2.1.set ((1:Int).toNat) y3.2.1),())) none) none) (some (y2.1,y1.2.1,())))) none) none
def Xd[dp] :=PX 186 Tryz.f186 (.st .cur) [] Jt (λl _=>M4 l) [UY,DV,D0] [] (by kernel_rfl) λl x=>by simp only[M4,tm,-eq_self];kernel_rfl
abbrev Rj:LX:=⟨⟨[PO,VQ,Lf],[],YA,1,17⟩,[(.ext 0,⟨[VQ],[],YA,1,17⟩)],[],[0,3,4],[3]⟩
def Mo[dp](s:Vc×Unit×List oS×List Int×Unit):Rj.R:=
 br (decide (s.1.2.2.1<5)) ((DN s.2.2.1 2).bind λy4=>iteP (y4.1.length=s.2.2.1.length) (br y4.2.1 (iteP ((s.2.2.2.1++([s.1.2.2.1]:List Int)).length*8<=2 ^ 40) (some (.inl (((),(),(aaV .i64 (s.1.2.2.1+1)),()),(()),y4.1,(s.2.2.2.1++([s.1.2.2.1]:List Int)),()))) none) (some (.inl (((),(),(aaV .i64 (s.1.2.2.1+1)),()),(()),y4.1,s.2.2.2)))) none) (some (.inr (((),()),(()),s.2.2)))
def U8[dp] :=mh Mo
def Vm[dp] :=FM Tryz.f253 [0] Rj Mo [FU] [] (by kernel_rfl) λs=>by simp only[Mo,tm,-eq_self];kernel_rfl
def JZ[dp](a0:List oS):Option ((List oS)×(List Int)×Unit):=
 (U8 (((),(),0,()),(()),a0,([]:List Int),())).bind λe6=>some e6.2.2
def Ua[dp] :=PX 253 Tryz.f253 (.st .cur) [] Jt (λl _=>JZ l) [] [Vm] (by kernel_rfl) λl x=>by simp only[JZ,tm];kernel_rfl
def H9[dp](a0:List oS)(a1:Int):Option ((List oS)×mt×Unit):=
 (CF a0 5).bind λy1=>iteP (y1.1.length=a0.length) ((JZ y1.1).bind λy2=>iteP (y2.1.length=y1.1.length) ((F7 y2.2.1 y1.2.1).bind λy3=>let j9 (p4:List Int):Option ((List oS)×mt×Unit):=(DN y2.1 2).bind λy5=>iteP (y5.1.length=y2.1.length) (br y5.2.1 ((JZ y5.1).bind λy6=>iteP (y6.1.length=y5.1.length) ((DM y6.2.1 p4).bind λy7=>br (decide ((y7.1.length:Int)>0)) (iteP (0<=(0:Int)/\(0:Int)<=(1:Int)/\(1:Int)<=((y7.1.length:Nat):Int)) (iteP ((0+(0:Int).toNat)=0/\((1:Int).toNat-(0:Int).toNat)<=y7.1.length) (some (y6.1,(⟨a1,y1.2.1,p4,(y7.1.take ((1:Int).toNat-(0:Int).toNat))⟩:mt),())) (iteP ((0+(0:Int).toNat)+((1:Int).toNat-(0:Int).toNat)<=y7.1.length) (some (y6.1,(⟨a1,y1.2.1,p4,((y7.1.drop (0+(0:Int).toNat)).take ((1:Int).toNat-(0:Int).toNat))⟩:mt),())) none)) none) (some (y6.1,(⟨a1,y1.2.1,p4,([]:List Int)⟩:mt),()))) none) (some (y5.1,(⟨a1,y1.2.1,p4,([]:List Int)⟩:mt),()))) none;br (decide ((y3.1.length:Int)>3)) (j9 ([y1.2.1]:List Int)) (j9 y3.1)) none) none
def Oo[dp] :=PX 238 Tryz.f238 (.st .cur) Tj Yr (λl x=>H9 l x.1) [DV,Ua,Ms,FU,Jo] [] (by kernel_rfl) λl x=>by simp only[H9,tm,-eq_self];kernel_rfl
abbrev Rf:LX:=⟨⟨[PO,Mu,Nh,Lf],[Wy,ZB],[.st .cur,.st .config],1,34⟩,[(.ext 0,⟨[Mu,Nh],[Wy,ZB],[.st .cur,.st .config],1,34⟩)],[.b 1 0 (.st .config)],[0,2,3,4],[2,3]⟩
def Mm[dp](s:XA×(Rb×Rb×Unit)×List oS×List mt×Unit):Rf.R:=
 br (decide (s.1.2.2.2.1>0)) ((H9 s.2.2.1 (aaV .i64 ((s.2.2.2.1.length:Int)+1))).bind λy17=>iteP (y17.1.length=s.2.2.1.length) ((Dg (⟨s.2.2.2.1,s.2.1.2.1.2.1⟩:jr) y17.2.1).bind λy18=>(DN y17.1 2).bind λy19=>iteP (y19.1.length=y17.1.length) (br y19.2.1 ((De y18.1 (y18.1.configs.length:Int)).bind λy20=>some (.inl (((),(),(),(aaV .i64 (s.1.2.2.2.1-1)),()),(s.2.1.1,((),y20.1.activated,()),()),y19.1,y20.1.configs,()))) (some (.inl (((),(),(),(aaV .i64 (s.1.2.2.2.1-1)),()),(s.2.1.1,((),y18.1.activated,()),()),y19.1,y18.1.configs,())))) none) none) (some (.inr (((),(),()),s.2)))
def U6[dp] :=mh Mm
def Vk[dp] :=FM Tryz.f221 [0] Rf Mm [Oo,Kb,FU,Jm] [] (by kernel_rfl) λs=>by simp only[Mm,tm,-eq_self];kernel_rfl
def M0[dp](a0:List oS):Option ((List oS)×jr×Unit):=
 (CF a0 5).bind λy1=>iteP (y1.1.length=a0.length) ((U6 (((),(),(),y1.2.1,()),(((),0,()),((),0,()),()),y1.1,([]:List mt),())).bind λe23=>some (e23.2.2.1,(⟨e23.2.2.2.1,e23.2.1.2.1.2.1⟩:jr),())) none
def W9[dp] :=PX 221 Tryz.f221 (.st .cur) [] Yt (λl _=>M0 l) [DV] [Vk] (by kernel_rfl) λl x=>by simp only[M0,tm,-eq_self];kernel_rfl
def ND[dp](a0:List oS):Option ((List oS)×(List Int)×Unit):=
 (JZ a0).bind λy1=>iteP (y1.1.length=a0.length) ((DN y1.1 8).bind λy2=>iteP (y2.1.length=y1.1.length) (br y2.2.1 ((CS y2.1 ([(-1),0,4,5]:List Int)).bind λy3=>iteP (y3.1.length=y2.1.length) (iteP ((y1.2.1++([y3.2.1]:List Int)).length*8<=2 ^ 40) (some (y3.1,(y1.2.1++([y3.2.1]:List Int)),())) none) none) (some (y2.1,y1.2.1,()))) none) none
def Yk[dp] :=PX 239 Tryz.f239 (.st .cur) [] Jt (λl _=>ND l) [Ua,FU,D0] [] (by kernel_rfl) λl x=>by simp only[ND,tm,-eq_self];kernel_rfl
def NH[dp](a0:List oS):Option ((List oS)×mt×Unit):=
 (CF a0 4).bind λy1=>iteP (y1.1.length=a0.length) ((H9 y1.1 (aaV .i64 (1+y1.2.1))).bind λy2=>iteP (y2.1.length=y1.1.length) ((CF y2.1 14).bind λy3=>iteP (y3.1.length=y2.1.length) (br (y3.2.1==0) ((CS y3.1 ([0,20,21]:List Int)).bind λy4=>iteP (y4.1.length=y3.1.length) (some (y4.1,(⟨y4.2.1,y2.2.1.primary,y2.2.1.replicas,y2.2.1.witnesses⟩:mt),())) none) (br (y3.2.1==1) ((CF y3.1 7).bind λy5=>iteP (y5.1.length=y3.1.length) (some (y5.1,(⟨y2.2.1.epoch,(aaV .i64 (y5.2.1-1)),y2.2.1.replicas,y2.2.1.witnesses⟩:mt),())) none) (br (y3.2.1==2) ((ND y3.1).bind λy6=>iteP (y6.1.length=y3.1.length) (some (y6.1,(⟨y2.2.1.epoch,y2.2.1.primary,y6.2.1,y2.2.1.witnesses⟩:mt),())) none) (br (y3.2.1==3) ((ND y3.1).bind λy7=>iteP (y7.1.length=y3.1.length) (some (y7.1,(⟨y2.2.1.epoch,y2.2.1.primary,y2.2.1.replicas,y7.2.1⟩:mt),())) none) (some (y3.1,y2.2.1,())))))) none) none) none
def VG[dp] :=PX 222 Tryz.f222 (.st .cur) [] Yr (λl _=>NH l) [DV,Oo,D0,Yk] [] (by kernel_rfl) λl x=>by simp only[NH,tm,-eq_self];kernel_rfl
def MZ[dp](a0:List oS):Option ((List oS)×jr×Unit):=
 (M0 a0).bind λy1=>iteP (y1.1.length=a0.length) ((CF y1.1 14).bind λy2=>iteP (y2.1.length=y1.1.length) (br (y2.2.1==0) ((CS y2.1 ([(-1),0,3,6]:List Int)).bind λy3=>iteP (y3.1.length=y2.1.length) (some (y3.1,(⟨y1.2.1.configs,y3.2.1⟩:jr),())) none) (br (y2.2.1==1) ((NH y2.1).bind λy4=>iteP (y4.1.length=y2.1.length) (iteP ((y1.2.1.configs++([y4.2.1]:List mt)).length*64<=2 ^ 40) (some (y4.1,(⟨(y1.2.1.configs++([y4.2.1]:List mt)),y1.2.1.activated⟩:jr),())) none) none) (some (y2.1,y1.2.1,())))) none) none
def W8[dp] :=PX 187 Tryz.f187 (.st .cur) [] Yt (λl _=>MZ l) [W9,DV,D0,VG] [] (by kernel_rfl) λl x=>by simp only[MZ,tm,-eq_self];kernel_rfl
def M1[dp](a0:List oS):Option ((List oS)×sS×Unit):=
 (DN a0 4).bind λy1=>iteP (y1.1.length=a0.length) (let j17 (p5:List oS) (p6:Int) (p7:Int) (p8:Int):Option ((List oS)×sS×Unit):=(CF p5 14).bind λy9=>iteP (y9.1.length=p5.length) (br (y9.2.1==0) ((CS y9.1 ([0,20,21]:List Int)).bind λy10=>iteP (y10.1.length=y9.1.length) (some (y10.1,(⟨y10.2.1,p7,p8⟩:sS),())) none) (br (y9.2.1==1) ((CS y9.1 ([(-1),4,5]:List Int)).bind λy11=>iteP (y11.1.length=y9.1.length) (some (y11.1,(⟨p6,y11.2.1,p8⟩:sS),())) none) (br (y9.2.1==2) ((CS y9.1 ([(-1),0,1049,1050]:List Int)).bind λy12=>iteP (y12.1.length=y9.1.length) (some (y12.1,(⟨p6,p7,y12.2.1⟩:sS),())) none) (some (y9.1,(⟨p6,p7,p8⟩:sS),()))))) none;br (!y1.2.1) ((CF y1.1 3).bind λy2=>iteP (y2.1.length=y1.1.length) ((CF y2.1 3).bind λy3=>iteP (y3.1.length=y2.1.length) ((CF y3.1 20).bind λy4=>iteP (y4.1.length=y3.1.length) (j17 y4.1 (aaV .i64 (1+y2.2.1)) y3.2.1 (aaV .i64 (1+y4.2.1))) none) none) none) (j17 y1.1 0 0 0)) none
def Xa[dp] :=PX 188 Tryz.f188 (.st .cur) [] [.st .lease] (λl _=>M1 l) [FU,DV,D0] [] (by kernel_rfl) λl x=>by simp only[M1,tm,-eq_self];kernel_rfl
def OI[dp](a0:List oS):Option ((List oS)×(List sV)×Unit):=
 (Jl a0).bind λy1=>iteP (y1.1.length=a0.length) ((CF y1.1 14).bind λy2=>iteP (y2.1.length=y1.1.length) (br (y2.2.1==0) (iteP (0<=(1:Int)/\(1:Int)<=(y1.2.1.length:Int)/\(y1.2.1.length:Int)<=((y1.2.1.length:Nat):Int)) (iteP ((0+(1:Int).toNat)=0/\((y1.2.1.length:Int).toNat-(1:Int).toNat)<=y1.2.1.length) (some (y2.1,(y1.2.1.take ((y1.2.1.length:Int).toNat-(1:Int).toNat)),())) (iteP ((0+(1:Int).toNat)+((y1.2.1.length:Int).toNat-(1:Int).toNat)<=y1.2.1.length) (some (y2.1,((y1.2.1.drop (0+(1:Int).toNat)).take ((y1.2.1.length:Int).toNat-(1:Int).toNat)),())) none)) none) (br (y2.2.1==1) ((CS y2.1 ([(-1),9,10]:List Int)).bind λy3=>iteP (y3.1.length=y2.1.length) (iteP (0<=(0:Int)/\(0:Int)< (y1.2.1.length:Int)) ((y1.2.1[(0:Int).toNat]?).bind λx4=>some (y3.1,(y1.2.1.set ((0:Int).toNat) (⟨y3.2.1,x4.capacity,x4.load⟩:sV)),())) none) none) (br (y2.2.1==2) ((CS y2.1 ([(-1),99,100]:List Int)).bind λy6=>iteP (y6.1.length=y2.1.length) (iteP (0<=(1:Int)/\(1:Int)< (y1.2.1.length:Int)) ((y1.2.1[(1:Int).toNat]?).bind λx7=>some (y6.1,(y1.2.1.set ((1:Int).toNat) (⟨x7.rack,x7.capacity,y6.2.1⟩:sV)),())) none) none) (some (y2.1,y1.2.1,()))))) none) none
def Yl[dp] :=PX 189 Tryz.f189 (.st .cur) [] [.ls (.st .place)] (λl _=>OI l) [QT,DV,D0] [] (by kernel_rfl) λl x=>by simp only[OI,tm,-eq_self];kernel_rfl
abbrev SK:LX:=⟨⟨[PO,VS,Lf,LC],[],YB,1,27⟩,[(.ext 0,⟨[VS],[],YB,1,27⟩)],[],[0,3,4,5],[3]⟩
def LJ[dp](s: (Unit×Unit×Int×Int×Unit)×Unit×List oS×List pS×Unit):SK.R:=
 br (decide (s.1.2.2.2.1>0)) ((DN s.2.2.1 3).bind λy6=>iteP (y6.1.length=s.2.2.1.length) (br y6.2.1 ((Lt y6.1).bind λy9=>iteP (y9.1.length=y6.1.length) (iteP ((s.2.2.2.1++([(⟨(aaV .i64 (s.1.2.2.1+1)),y9.2.1⟩:pS)]:List pS)).length*56<=2 ^ 40) (some (.inl (((),(),(aaV .i64 (s.1.2.2.1+1)),(aaV .i64 (s.1.2.2.2.1-1)),()),(()),y9.1,(s.2.2.2.1++([(⟨(aaV .i64 (s.1.2.2.1+1)),y9.2.1⟩:pS)]:List pS)),()))) none) none) ((Lt y6.1).bind λy10=>iteP (y10.1.length=y6.1.length) (iteP ((s.2.2.2.1++([(⟨s.1.2.2.1,y10.2.1⟩:pS)]:List pS)).length*56<=2 ^ 40) (some (.inl (((),(),s.1.2.2.1,(aaV .i64 (s.1.2.2.2.1-1)),()),(()),y10.1,(s.2.2.2.1++([(⟨s.1.2.2.1,y10.2.1⟩:pS)]:List pS)),()))) none) none)) none) (some (.inr (((),()),(()),s.2.2)))
def Sz[dp] :=mh LJ
def WG[dp] :=FM Tryz.f168 [0] SK LJ [FU,Td] [] (by kernel_rfl) λs=>by simp only[LJ,tm,-eq_self];kernel_rfl
def NG[dp](a0:List oS):Option ((List oS)×(List pS)×Unit):=
 (CF a0 7).bind λy1=>iteP (y1.1.length=a0.length) ((Sz (((),(),1,y1.2.1,()),(()),y1.1,([]:List pS),())).bind λe14=>some e14.2.2) none
def VF[dp] :=PX 168 Tryz.f168 (.st .cur) [] Tn (λl _=>NG l) [DV] [WG] (by kernel_rfl) λl x=>by simp only[NG,tm,-eq_self];kernel_rfl
abbrev Ri:LX:=⟨⟨[Kl,KC,LC],[],[],0,25⟩,[(.ext 0,⟨[Kl,LC],[],[],0,25⟩)],[],[0,1,5],[0,5]⟩
def Mn(s: (List pS×Int×Int×Unit)×Unit×Unit):Ri.R:=
 br (decide (s.1.2.2.1< (s.1.1.length:Int))) (iteP (0<=s.1.2.2.1) ((s.1.1[s.1.2.2.1.toNat]?).bind λx4=>br (decide (x4.epoch<=s.1.2.1)) (some (.inl ((s.1.1,s.1.2.1,(aaV .i64 (s.1.2.2.1+1)),()),(()),(())))) (some (.inr ((s.1.1,s.1.2.2),(()),(()))))) none) (some (.inr ((s.1.1,s.1.2.2),(()),(()))))
def U7:=mh Mn
def Vl[dp] :=FM Tryz.f240 [0] Ri Mn [] [] (by kernel_rfl) λs=>by simp only[Mn,tm];kernel_rfl
def M3(a0:List pS)(a1:Int):Option ((List pS)×Unit):=
 (U7 ((a0,a1,0,()),(()),(()))).bind λe5=>iteP (0<=(0:Int)/\(0:Int)<=e5.1.2.1/\e5.1.2.1<=(e5.1.1.length:Int)) ((DP ((e5.1.1.drop (0:Int).toNat).take (e5.1.2.1.toNat-(0:Int).toNat))).bind λy6=>some (y6.1,())) none
def Xc[dp] :=C4 240 Tryz.f240 Xp Tn (λx=>M3 x.1 x.2.1) [He] [Vl] (by kernel_rfl) λx=>by simp only[M3,tm];kernel_rfl
def JX[dp](a0:List oS):Option ((List oS)×oU×Int×Unit):=
 (CF a0 2).bind λy1=>iteP (y1.1.length=a0.length) ((Ik (aaV .i64 (1+y1.2.1))).bind λy2=>(CF y1.1 3).bind λy3=>iteP (y3.1.length=y1.1.length) ((H9 y3.1 (aaV .i64 (1+y3.2.1))).bind λy4=>iteP (y4.1.length=y3.1.length) ((C5 y4.2.1).bind λy5=>(CF y4.1 (y5.1.length:Int)).bind λy6=>iteP (y6.1.length=y4.1.length) (iteP (0<=y6.2.1/\y6.2.1< (y5.1.length:Int)) ((y5.1[y6.2.1.toNat]?).bind λx7=>(DN y6.1 5).bind λy8=>iteP (y8.1.length=y6.1.length) (br (!y8.2.1) ((NG y8.1).bind λy9=>iteP (y9.1.length=y8.1.length) ((M3 y9.2.1 y4.2.1.epoch).bind λy10=>(Dw y2.1 y4.2.1 x7 y10.1).bind λy11=>(DN y9.1 4).bind λy44=>iteP (y44.1.length=y9.1.length) (let j62 (p45:Bool):Option ((List oS)×oU×Int×Unit):=(DN y44.1 4).bind λy46=>iteP (y46.1.length=y44.1.length) (br y46.2.1 ((CF y46.1 3).bind λy47=>iteP (y47.1.length=y46.1.length) ((FT (⟨p45,y11.1.intact,y11.1.version,y11.1.epoch,y11.1.config,y11.1.first,y11.1.log,y11.1.commit,y11.1.learned⟩:oU) (aaV .i64 (4+y47.2.1))).bind λy48=>some (y47.1,y48.1,x7,())) none) (some (y46.1,(⟨p45,y11.1.intact,y11.1.version,y11.1.epoch,y11.1.config,y11.1.first,y11.1.log,y11.1.commit,y11.1.learned⟩:oU),x7,()))) none;br y44.2.1 (j62 false) (j62 y11.1.up)) none) none) ((DN y8.1 4).bind λy63=>iteP (y63.1.length=y8.1.length) (let j81 (p64:Bool):Option ((List oS)×oU×Int×Unit):=(DN y63.1 4).bind λy65=>iteP (y65.1.length=y63.1.length) (br y65.2.1 ((CF y65.1 3).bind λy66=>iteP (y66.1.length=y65.1.length) ((FT (⟨p64,y2.1.intact,y2.1.version,y2.1.epoch,y2.1.config,y2.1.first,y2.1.log,y2.1.commit,y2.1.learned⟩:oU) (aaV .i64 (4+y66.2.1))).bind λy67=>some (y66.1,y67.1,x7,())) none) (some (y65.1,(⟨p64,y2.1.intact,y2.1.version,y2.1.epoch,y2.1.config,y2.1.first,y2.1.log,y2.1.commit,y2.1.learned⟩:oU),x7,()))) none;br y63.2.1 (j81 false) (j81 y2.1.up)) none)) none) none) none) none) none) none
def T8[dp] :=PX 223 Tryz.f223 (.st .cur) [] [.st .server,.i .i64] (λl _=>JX l) [DV,PJ,Oo,Hc,FU,VF,Xc,Ka,OU] [] (by kernel_rfl) λl x=>by simp only[JX,tm,-eq_self];kernel_rfl
def NE[dp](a0:List oS):Option ((List oS)×Op×Unit):=
 (Lt a0).bind λy1=>iteP (y1.1.length=a0.length) ((CF y1.1 14).bind λy2=>iteP (y2.1.length=y1.1.length) (br (y2.2.1==0) ((CS y2.1 ([(-1),2,3]:List Int)).bind λy3=>iteP (y3.1.length=y2.1.length) (some (y3.1,(⟨y3.2.1,y1.2.1.seq,y1.2.1.kind,y1.2.1.object,y1.2.1.old,y1.2.1.value⟩:Op),())) none) (br (y2.2.1==1) ((CS y2.1 ([0,99,100]:List Int)).bind λy4=>iteP (y4.1.length=y2.1.length) (some (y4.1,(⟨y1.2.1.client,y4.2.1,y1.2.1.kind,y1.2.1.object,y1.2.1.old,y1.2.1.value⟩:Op),())) none) (br (y2.2.1==2) ((CF y2.1 4).bind λy5=>iteP (y5.1.length=y2.1.length) (some (y5.1,(⟨y1.2.1.client,y1.2.1.seq,y5.2.1,y1.2.1.object,y1.2.1.old,y1.2.1.value⟩:Op),())) none) (br (y2.2.1==3) ((CS y2.1 ([(-1),3]:List Int)).bind λy6=>iteP (y6.1.length=y2.1.length) (some (y6.1,(⟨y1.2.1.client,y1.2.1.seq,y1.2.1.kind,y6.2.1,y1.2.1.old,y1.2.1.value⟩:Op),())) none) (br (y2.2.1==4) ((CS y2.1 ([(-1),9,10]:List Int)).bind λy7=>iteP (y7.1.length=y2.1.length) (some (y7.1,(⟨y1.2.1.client,y1.2.1.seq,y1.2.1.kind,y1.2.1.object,y1.2.1.old,y7.2.1⟩:Op),())) none) (br (y2.2.1==5) ((CS y2.1 ([(-1),0,9,10]:List Int)).bind λy8=>iteP (y8.1.length=y2.1.length) (some (y8.1,(⟨y1.2.1.client,y1.2.1.seq,y1.2.1.kind,y1.2.1.object,y8.2.1,y1.2.1.value⟩:Op),())) none) (some (y2.1,y1.2.1,())))))))) none) none
def VD[dp] :=PX 85 Tryz.f85 (.st .cur) [] [.st .op] (λl _=>NE l) [Td,DV,D0] [] (by kernel_rfl) λl x=>by simp only[NE,tm,-eq_self];kernel_rfl
abbrev SJ:LX:=⟨⟨[PO,VS],[],YB,1,33⟩,[(.ext 1,⟨[VS],[],YB,1,33⟩)],[],[0,3],[3]⟩
def KG[dp](s:XB×Unit×List oS×List pS×Unit):SJ.R:=
 br (decide ((s.2.2.2.1.length:Int)<17)) ((Lt s.2.2.1).bind λy7=>iteP (y7.1.length=s.2.2.1.length) (iteP ((s.2.2.2.1++([(⟨20,y7.2.1⟩:pS)]:List pS)).length*56<=2 ^ 40) (some (.inl (((),(),()),(()),y7.1,(s.2.2.2.1++([(⟨20,y7.2.1⟩:pS)]:List pS)),()))) none) none) (some (.inr (((),()),(()),s.2.2)))
def Sy[dp] :=mh KG
def WF[dp] :=FM Tryz.f83 [0] SJ KG [Td] [] (by kernel_rfl) λs=>by simp only[KG,tm,-eq_self];kernel_rfl
def NF[dp](a0:List oS):Option ((List oS)×(List pS)×Unit):=
 (NG a0).bind λy1=>iteP (y1.1.length=a0.length) ((CF y1.1 14).bind λy2=>iteP (y2.1.length=y1.1.length) (br (y2.2.1==0) ((CS y2.1 ([0,1,20,21]:List Int)).bind λy3=>iteP (y3.1.length=y2.1.length) ((NE y3.1).bind λy4=>iteP (y4.1.length=y3.1.length) (iteP ((y1.2.1++([(⟨y3.2.1,y4.2.1⟩:pS)]:List pS)).length*56<=2 ^ 40) (some (y4.1,(y1.2.1++([(⟨y3.2.1,y4.2.1⟩:pS)]:List pS)),())) none) none) none) (br (y2.2.1==1) ((Sy (((),(),()),(()),y2.1,y1.2.1,())).bind λe8=>some e8.2.2) (some (y2.1,y1.2.1,())))) none) none
def VE[dp] :=PX 83 Tryz.f83 (.st .cur) [] Tn (λl _=>NF l) [VF,DV,D0,VD] [WF] (by kernel_rfl) λl x=>by simp only[NF,tm,-eq_self];kernel_rfl
def M2[dp](a0:List oS):Option ((List oS)×oU×Int×Unit):=
 (JX a0).bind λy1=>iteP (y1.1.length=a0.length) ((CF y1.1 16).bind λy2=>iteP (y2.1.length=y1.1.length) (let j21 (p10:List oS) (p11:Int) (p12:Int) (p13:Int) (p14:Int) (p15:List Int) (p16:List Int) (p17:Int) (p18:List pS) (p19:Int) (p20:Int):Option ((List oS)×oU×Int×Unit):=some (p10,(⟨y1.2.1.up,y1.2.1.intact,p11,p12,(⟨p13,p14,p15,p16⟩:mt),p17,p18,p19,y1.2.1.learned⟩:oU),p20,());br (y2.2.1==0) ((CS y2.1 ([0,1,3]:List Int)).bind λy3=>iteP (y3.1.length=y2.1.length) (j21 y3.1 y3.2.1 y1.2.1.epoch y1.2.1.config.epoch y1.2.1.config.primary y1.2.1.config.replicas y1.2.1.config.witnesses y1.2.1.first y1.2.1.log y1.2.1.commit y1.2.2.1) none) (br (y2.2.1==1) ((CS y2.1 ([(-1),0,20,21]:List Int)).bind λy4=>iteP (y4.1.length=y2.1.length) (j21 y4.1 y1.2.1.version y4.2.1 y1.2.1.config.epoch y1.2.1.config.primary y1.2.1.config.replicas y1.2.1.config.witnesses y1.2.1.first y1.2.1.log y1.2.1.commit y1.2.2.1) none) (br (y2.2.1==2) ((NH y2.1).bind λy5=>iteP (y5.1.length=y2.1.length) (j21 y5.1 y1.2.1.version y1.2.1.epoch y5.2.1.epoch y5.2.1.primary y5.2.1.replicas y5.2.1.witnesses y1.2.1.first y1.2.1.log y1.2.1.commit y1.2.2.1) none) (br (y2.2.1==3) ((CS y2.1 ([(-1),0,2,17]:List Int)).bind λy6=>iteP (y6.1.length=y2.1.length) (j21 y6.1 y1.2.1.version y1.2.1.epoch y1.2.1.config.epoch y1.2.1.config.primary y1.2.1.config.replicas y1.2.1.config.witnesses y1.2.1.first y1.2.1.log y6.2.1 y1.2.2.1) none) (br (y2.2.1==4) ((CS y2.1 ([(-1),0,2,9223372036854775807]:List Int)).bind λy7=>iteP (y7.1.length=y2.1.length) (j21 y7.1 y1.2.1.version y1.2.1.epoch y1.2.1.config.epoch y1.2.1.config.primary y1.2.1.config.replicas y1.2.1.config.witnesses y7.2.1 y1.2.1.log y1.2.1.commit y1.2.2.1) none) (br (y2.2.1==5) ((CF y2.1 7).bind λy8=>iteP (y8.1.length=y2.1.length) (j21 y8.1 y1.2.1.version y1.2.1.epoch y1.2.1.config.epoch y1.2.1.config.primary y1.2.1.config.replicas y1.2.1.config.witnesses y1.2.1.first y1.2.1.log y1.2.1.commit (aaV .i64 (y8.2.1-1))) none) (br (y2.2.1==6) ((NF y2.1).bind λy9=>iteP (y9.1.length=y2.1.length) (j21 y9.1 y1.2.1.version y1.2.1.epoch y1.2.1.config.epoch y1.2.1.config.primary y1.2.1.config.replicas y1.2.1.config.witnesses y1.2.1.first y9.2.1 y1.2.1.commit y1.2.2.1) none) (j21 y2.1 y1.2.1.version y1.2.1.epoch y1.2.1.config.epoch y1.2.1.config.primary y1.2.1.config.replicas y1.2.1.config.witnesses y1.2.1.first y1.2.1.log y1.2.1.commit y1.2.2.1)))))))) none) none
def Xb[dp] :=PX 190 Tryz.f190 (.st .cur) [] [.st .server,.i .i64] (λl _=>M2 l) [T8,DV,D0,VG,VE] [] (by kernel_rfl) λl x=>by simp only[M2,tm,-eq_self];kernel_rfl
def M5[dp](a0:List oS):Option ((List oS)×oQ×Unit):=
 (IW a0).bind λy1=>iteP (y1.1.length=a0.length) ((CF y1.1 20).bind λy2=>iteP (y2.1.length=y1.1.length) (br (y2.2.1==0) ((CS y2.1 ([(-1),998,999,1000]:List Int)).bind λy3=>iteP (y3.1.length=y2.1.length) (some (y3.1,(⟨y3.2.1,y1.2.1.servers,y1.2.1.sides,y1.2.1.master,y1.2.1.masterUp,y1.2.1.lease,y1.2.1.places⟩:oQ),())) none) (br (y2.2.1==1) ((M4 y2.1).bind λy4=>iteP (y4.1.length=y2.1.length) (some (y4.1,(⟨y1.2.1.now,y1.2.1.servers,y4.2.1,y1.2.1.master,y1.2.1.masterUp,y1.2.1.lease,y1.2.1.places⟩:oQ),())) none) (br (y2.2.1==2) ((MZ y2.1).bind λy5=>iteP (y5.1.length=y2.1.length) (some (y5.1,(⟨y1.2.1.now,y1.2.1.servers,y1.2.1.sides,y5.2.1,y1.2.1.masterUp,y1.2.1.lease,y1.2.1.places⟩:oQ),())) none) (br (y2.2.1==3) ((CS y2.1 ([(-1),3,4]:List Int)).bind λy6=>iteP (y6.1.length=y2.1.length) (some (y6.1,(⟨y1.2.1.now,y1.2.1.servers,y1.2.1.sides,y1.2.1.master,y6.2.1,y1.2.1.lease,y1.2.1.places⟩:oQ),())) none) (br (y2.2.1==4) ((M1 y2.1).bind λy7=>iteP (y7.1.length=y2.1.length) (some (y7.1,(⟨y1.2.1.now,y1.2.1.servers,y1.2.1.sides,y1.2.1.master,y1.2.1.masterUp,y7.2.1,y1.2.1.places⟩:oQ),())) none) (br (y2.2.1==5) ((OI y2.1).bind λy8=>iteP (y8.1.length=y2.1.length) (some (y8.1,(⟨y1.2.1.now,y1.2.1.servers,y1.2.1.sides,y1.2.1.master,y1.2.1.masterUp,y1.2.1.lease,y8.2.1⟩:oQ),())) none) (br (y2.2.1==6) ((M2 y2.1).bind λy9=>iteP (y9.1.length=y2.1.length) ((CF y9.1 5).bind λy10=>iteP (y10.1.length=y9.1.length) (iteP (0<=y10.2.1/\y10.2.1< (y1.2.1.servers.length:Int)) ((y1.2.1.servers[y10.2.1.toNat]?).bind λ_=>some (y10.1,(⟨y1.2.1.now,(y1.2.1.servers.set y10.2.1.toNat y9.2.1),y1.2.1.sides,y1.2.1.master,y1.2.1.masterUp,y1.2.1.lease,y1.2.1.places⟩:oQ),())) none) none) none) (some (y2.1,y1.2.1,()))))))))) none) none
def Xe[dp] :=PX 117 Tryz.f117 (.st .cur) [] Ul (λl _=>M5 l) [Tc,DV,D0,Xd,W8,Xa,Yl,Xb] [] (by kernel_rfl) λl x=>by simp only[M5,tm,-eq_self];kernel_rfl
abbrev PU:LX:=⟨⟨[PO,Mu,Nh,O2,(5,.cl (.bl)),NQ],[KD,Um,[.int .i64,.int .i64,.own 5 (.i .i64),.own 6 (.i .i64)]],[.st .cur,.st .server,.i .i64,.st .config,.st .place,.i .i64,.i .i64],1,41⟩,[(.ext 0,⟨[Mu,Nh],[KD,Um],[.st .cur,.st .server,.i .i64,.st .config,.st .place],1,41⟩)],[],[0,2,3,4,5,6],[2,3]⟩
def Lj[dp](s: (Unit×Unit×Unit×Unit×Bool×Int×Unit)×(Lh×Lh×Rc×Unit)×List oS×List oU×List Int×List mt×List sV×List Int×List Int×Unit):PU.R:=
 br (decide (s.1.2.2.2.2.2.1< (s.2.2.2.2.2.2.2.1.length:Int))) (br s.1.2.2.2.2.1 ((DN s.2.2.1 6).bind λy26=>iteP (y26.1.length=s.2.2.1.length) (br (!y26.2.1) (iteP (0<=s.1.2.2.2.2.2.1/\s.1.2.2.2.2.2.1< (s.2.2.2.2.2.2.2.1.length:Int)) ((s.2.2.2.2.2.2.2.1[s.1.2.2.2.2.2.1.toNat]?).bind λx27=>(H7 (⟨s.2.1.2.1.1,s.2.2.2.1,s.2.2.2.2.1,(⟨s.2.2.2.2.2.1,s.2.1.2.1.2.2.2.2.1⟩:jr),s.2.1.2.1.2.2.2.2.2.1,(⟨s.2.1.2.1.2.2.2.2.2.2.1,s.2.1.2.1.2.2.2.2.2.2.2.1,s.2.1.2.1.2.2.2.2.2.2.2.2.1⟩:sS),s.2.2.2.2.2.2.1⟩:oQ) x27).bind λy28=>some (.inl (((),(),(),(),s.1.2.2.2.2.1,(aaV .i64 (s.1.2.2.2.2.2.1+1)),()),(s.2.1.1,(y28.1.now,(),(),(),y28.1.master.activated,y28.1.masterUp,y28.1.lease.epoch,y28.1.lease.holder,y28.1.lease.ends,(),()),s.2.1.2.2),y26.1,y28.1.servers,y28.1.sides,y28.1.master.configs,y28.1.places,s.2.2.2.2.2.2.2))) none) (some (.inr (((),(),()),(s.2.1.1,s.2.1.2.1,()),y26.1,s.2.2.2.1,s.2.2.2.2.1,s.2.2.2.2.2.1,s.2.2.2.2.2.2.1,())))) none) (some (.inr (((),(),()),(s.2.1.1,s.2.1.2.1,()),s.2.2.1,s.2.2.2.1,s.2.2.2.2.1,s.2.2.2.2.2.1,s.2.2.2.2.2.2.1,())))) (some (.inr (((),(),()),(s.2.1.1,s.2.1.2.1,()),s.2.2.1,s.2.2.2.1,s.2.2.2.2.1,s.2.2.2.2.2.1,s.2.2.2.2.2.2.1,())))
def Uf[dp] :=mh Lj
def Ut[dp] :=FM Tryz.f55 [0] PU Lj [FU,QL] [] (by kernel_rfl) λs=>by simp only[Lj,tm,-eq_self];kernel_rfl
def LQ[dp](a0:List oS):Option ((List oS)×oQ×Unit):=
 (M5 a0).bind λy1=>iteP (y1.1.length=a0.length) ((CK y1.2.1.master).bind λy2=>(Uf (((),(),(),(),y2.2.1,0,()),((0,(),(),(),0,0,0,0,0,(),()),(y1.2.1.now,(),(),(),y1.2.1.master.activated,y1.2.1.masterUp,y1.2.1.lease.epoch,y1.2.1.lease.holder,y1.2.1.lease.ends,(),()),(y2.1.epoch,y2.1.primary,(),(),()),()),y1.1,y1.2.1.servers,y1.2.1.sides,y1.2.1.master.configs,y1.2.1.places,y2.1.replicas,y2.1.witnesses,())).bind λe29=>some (e29.2.2.1,(⟨e29.2.1.2.1.1,e29.2.2.2.1,e29.2.2.2.2.1,(⟨e29.2.2.2.2.2.1,e29.2.1.2.1.2.2.2.2.1⟩:jr),e29.2.1.2.1.2.2.2.2.2.1,(⟨e29.2.1.2.1.2.2.2.2.2.2.1,e29.2.1.2.1.2.2.2.2.2.2.2.1,e29.2.1.2.1.2.2.2.2.2.2.2.2.1⟩:sS),e29.2.2.2.2.2.2.1⟩:oQ),())) none
def Wt[dp] :=PX 55 Tryz.f55 (.st .cur) [] Ul (λl _=>LQ l) [Xe,D4] [Ut] (by kernel_rfl) λl x=>by simp only[LQ,tm,-eq_self];kernel_rfl
def Fc[dp](a0:Hd):Option (oQ×Unit):=
 (Qo a0).bind λy1=>(LQ y1.1).bind λy2=>iteP (y2.1.length=y1.1.length) (some (y2.2.1,())) none
def NN[dp] :=C4 8 Tryz.f8 [.ty (.h)] Ul (λx=>Fc x.1) [VB,Wt] [] (by kernel_rfl) λx=>by simp only[Fc,tm,-eq_self];kernel_rfl
def D5(a0:mt):Option (mt×Unit):=
 iteP ((([]:List Int)++a0.replicas).length*8<=2 ^ 40) (iteP ((([]:List Int)++a0.witnesses).length*8<=2 ^ 40) (some ((⟨a0.epoch,a0.primary,(([]:List Int)++a0.replicas),(([]:List Int)++a0.witnesses)⟩:mt),())) none) none
def IY[dp] :=C4 139 Tryz.f139 Va Yr (λx=>D5 x.1) [] [] (by kernel_rfl) λx=>by simp only[D5,tm];kernel_rfl
def DI(a0:List pS):Option ((List pS)×Unit):=iteP (a0.length*56<=2 ^ 40) (some (a0,())) none
def Hf[dp] :=coC 93 Tryz.f93 (.st .entry) 56 DI (by kernel_rfl) (λ_=>rfl) λ_=>by kernel_rfl
def Eu(a0:oU):Option (oU×Unit):=
 (D5 a0.config).bind λy1=>(DI a0.log).bind λy2=>(DI a0.learned).bind λy3=>some ((⟨a0.up,a0.intact,a0.version,a0.epoch,y1.1,a0.first,y2.1,a0.commit,y3.1⟩:oU),())
def OM[dp] :=C4 125 Tryz.f125 SA Yq (λx=>Eu x.1) [IY,Hf] [] (by kernel_rfl) λx=>by simp only[Eu,tm];kernel_rfl
def Gt(a0:List Int):Option ((List Int)×Unit):=iteP (a0.length*8<=2 ^ 40) (some (a0,())) none
def OV[dp] :=coC 131 Tryz.f131 (.i .i64) 8 Gt (by kernel_rfl) (λ_=>rfl) λ_=>by kernel_rfl
abbrev Nn:LX:=⟨⟨[Mu,Nh,(10,.cl (.ro (.st .config))),SE,Ni],[Wy,VV],Yv,0,25⟩,[(.ext 0,⟨[Mu,Nh],[Wy,VV],Yv,0,25⟩)],[.b 2 0 (.st .config)],[2,3,10,11,12],[2,3]⟩
def F8(s: (Unit×Unit×List mt×Int×Int×Unit)×(Rb×Rb×Unit)×List mt×Unit):Nn.R:=
 br (decide (s.1.2.2.2.2.1<s.1.2.2.2.1)) (iteP (0<=s.1.2.2.2.2.1) ((s.1.2.2.1[s.1.2.2.2.2.1.toNat]?).bind λx14=>(D5 x14).bind λy15=>iteP ((s.2.2.1++([y15.1]:List mt)).length*64<=2 ^ 40) (some (.inl (((),(),s.1.2.2.1,s.1.2.2.2.1,(aaV .i64 (s.1.2.2.2.2.1+1)),()),s.2.1,(s.2.2.1++([y15.1]:List mt)),()))) none) none) (some (.inr (((),(),()),s.2)))
def Nf:=mh F8
def Rp[dp] :=FM Tryz.f132 [0] Nn F8 [IY] [] (by kernel_rfl) λs=>by simp only[F8,tm];kernel_rfl
def Gp(a0:jr):Option (jr×Unit):=
 (Nf (((),(),a0.configs,(a0.configs.length:Int),0,()),(((),0,()),((),a0.activated,()),()),([]:List mt),())).bind λe16=>some ((⟨e16.2.2.1,e16.2.1.2.1.2.1⟩:jr),())
def Mq[dp] :=C4 132 Tryz.f132 Vb Yt (λx=>Gp x.1) [] [Rp] (by kernel_rfl) λx=>by simp only[Gp,tm];kernel_rfl
def IX(a0:List sV):Option ((List sV)×Unit):=iteP (a0.length*24<=2 ^ 40) (some (a0,())) none
def QU[dp] :=coC 133 Tryz.f133 (.st .place) 24 IX (by kernel_rfl) (λ_=>rfl) λ_=>by kernel_rfl
abbrev MM:LX:=⟨⟨[HQ,L6,Ui,(9,.cl (.ro (.st .server))),Q8,SE],[I5,KD,VW],Yw,0,36⟩,[(.ext 0,⟨[HQ,L6,Ui],[I5,KD,VW],Yw,0,36⟩)],[.b 2 1 (.st .server)],[1,2,3,9,10,11],[1,2,3]⟩
def FF(s: (Unit×Unit×Unit×List oU×Int×Int×Unit)×(L8×Lh×Zl×Unit)×List oU×Unit):MM.R:=
 br (decide (s.1.2.2.2.2.2.1<s.1.2.2.2.2.1)) (iteP (0<=s.1.2.2.2.2.2.1) ((s.1.2.2.2.1[s.1.2.2.2.2.2.1.toNat]?).bind λx60=>(Eu x60).bind λy61=>iteP ((s.2.2.1++([y61.1]:List oU)).length*152<=2 ^ 40) (some (.inl (((),(),(),s.1.2.2.2.1,s.1.2.2.2.2.1,(aaV .i64 (s.1.2.2.2.2.2.1+1)),()),s.2.1,(s.2.2.1++([y61.1]:List oU)),()))) none) none) (some (.inr (((),(),(),()),s.2)))
def MD:=mh FF
def Qf[dp] :=FM Tryz.f57 [0] MM FF [OM] [] (by kernel_rfl) λs=>by simp only[FF,tm];kernel_rfl
def HD(a0:oQ):Option (oQ×Unit):=
 (MD (((),(),(),a0.servers,(a0.servers.length:Int),0,()),((a0.now,a0.servers,a0.sides,a0.master.configs,a0.master.activated,a0.masterUp,a0.lease.epoch,a0.lease.holder,a0.lease.ends,a0.places,()),(0,(),(),(),0,0,0,0,0,(),()),(a0.now,(),a0.sides,a0.master.configs,a0.master.activated,a0.masterUp,a0.lease.epoch,a0.lease.holder,a0.lease.ends,a0.places,()),()),([]:List oU),())).bind λe62=>(Gt e62.2.1.1.2.2.1).bind λy63=>(Gp (⟨e62.2.1.1.2.2.2.1,e62.2.1.1.2.2.2.2.1⟩:jr)).bind λy64=>(IX e62.2.1.1.2.2.2.2.2.2.2.2.2.1).bind λy65=>some ((⟨e62.2.1.2.2.1.1,e62.2.2.1,y63.1,y64.1,e62.2.1.2.2.1.2.2.2.2.2.1,(⟨e62.2.1.2.2.1.2.2.2.2.2.2.1,e62.2.1.2.2.1.2.2.2.2.2.2.2.1,e62.2.1.2.2.1.2.2.2.2.2.2.2.2.1⟩:sS),y65.1⟩:oQ),())
def RN[dp] :=C4 57 Tryz.f57 L5 Ul (λx=>HD x.1) [OV,Mq,QU] [Qf] (by kernel_rfl) λx=>by simp only[HD,tm];kernel_rfl
def CQ(a0:Int)(a1:Int)(a2:Int):Option (Bool×Unit):=
 br (decide (a1<=a0)) (some ((decide (a0<=a2)),())) (some (false,()))
def EK[dp] :=C4 89 Tryz.f89 Xm [.b] (λx=>CQ x.1 x.2.1 x.2.2.1) [] [] (by kernel_rfl) λx=>by simp only[CQ,tm];kernel_rfl
def JI(a0:Int):Option (Bool×Unit):=
 (CQ a0 0 3).bind λy1=>some ((!y1.1),())
def RJ[dp] :=C4 207 Tryz.f207 Tj [.b] (λx=>JI x.1) [EK] [] (by kernel_rfl) λx=>by simp only[JI,tm];kernel_rfl
abbrev F4:LX:=⟨⟨[Mv,(1,.cl (.fc 207)),MT,Nj],[],[],0,19⟩,[(.ret,⟨[Lf],[],[],0,19⟩),(.ext 0,⟨[MH],[],[],0,19⟩)],[],[0,1,7,8],[4]⟩
def C6(s: (List Int×Unit×Int×Int×Unit)×Unit×Unit):F4.R:=
 br (decide (s.1.2.2.2.1<s.1.2.2.1)) (iteP (0<=s.1.2.2.2.1) ((s.1.1[s.1.2.2.2.1.toNat]?).bind λx4=>(JI x4).bind λy5=>br y5.1 (some (.inr (.inl (s.1.2.2.2,(()),(()))))) (some (.inl ((s.1.1,(),s.1.2.2.1,(aaV .i64 (s.1.2.2.2.1+1)),()),(()),(()))))) none) (some (.inr (.inr (((),()),(()),(())))))
def EJ:=mh C6
def Jb[dp] :=FM Tryz.f171 [0] F4 C6 [RJ] [] (by kernel_rfl) λs=>by simp only[C6,tm];kernel_rfl
def Ef(a0:List Int):Option (Int×Unit):=
 (EJ ((a0,(),(a0.length:Int),0,()),(()),(()))).bind λe6=>Sum.elim (λe6_0=>some e6_0.1) (λ_=>some ((-1),())) e6
def J4[dp] :=C4 171 Tryz.f171 Y9 HS (λx=>Ef x.1) [] [Jb] (by kernel_rfl) λx=>by simp only[Ef,tm];kernel_rfl
def DQ(a0:List Int):Option (Bool×Unit):=
 (Ef a0).bind λy1=>some ((decide (y1.1≥0)),())
def I0[dp] :=C4 98 Tryz.f98 Y9 [.b] (λx=>DQ x.1) [J4] [] (by kernel_rfl) λx=>by simp only[DQ,tm];kernel_rfl
def H5(a0:List Int):Option (Bool×Unit):=
 br ((a0.length:Int)==5) ((DQ a0).bind λy1=>some ((!y1.1),())) (some (false,()))
def QA[dp] :=C4 154 Tryz.f154 U9 [.b] (λx=>H5 x.1) [I0] [] (by kernel_rfl) λx=>by simp only[H5,tm];kernel_rfl
abbrev Nm:LX:=⟨⟨[Mv,(5,.cl (.ro (.i .i64))),NQ,MT],[],[],0,29⟩,[(.ret,⟨[K2],[],[],0,29⟩),(.ext 0,⟨[Nl],[],[],0,29⟩)],[],[0,5,6,7],[2]⟩
def Es(s:Zs×Unit×Unit):Nm.R:=
 br (decide (s.1.2.2.2.1<s.1.2.2.1)) (iteP (0<=s.1.2.2.2.1) ((s.1.2.1[s.1.2.2.2.1.toNat]?).bind λx5=>(CQ x5 0 4).bind λy6=>br (!y6.1) (some (.inr (.inl ((false,()),(()),(()))))) (br (decide (s.1.2.2.2.1>0)) (iteP (0<=(aaV .i64 (s.1.2.2.2.1-1))) ((s.1.1[(aaV .i64 (s.1.2.2.2.1-1)).toNat]?).bind λx7=>br (decide (x5<=x7)) (some (.inr (.inl ((false,()),(()),(()))))) (some (.inl ((s.1.1,s.1.2.1,s.1.2.2.1,(aaV .i64 (s.1.2.2.2.1+1)),()),(()),(()))))) none) (some (.inl ((s.1.1,s.1.2.1,s.1.2.2.1,(aaV .i64 (s.1.2.2.2.1+1)),()),(()),(())))))) none) (some (.inr (.inr (((),()),(()),(())))))
def I3:=mh Es
def Rn[dp] :=FM Tryz.f193 [0] Nm Es [EK] [] (by kernel_rfl) λs=>by simp only[Es,tm];kernel_rfl
def Fd(a0:List Int):Option (Bool×Unit):=
 (I3 ((a0,a0,(a0.length:Int),0,()),(()),(()))).bind λe8=>Sum.elim (λe8_0=>some e8_0.1) (λ_=>some (true,())) e8
def SR[dp] :=C4 193 Tryz.f193 U9 [.b] (λx=>Fd x.1) [] [Rn] (by kernel_rfl) λx=>by simp only[Fd,tm];kernel_rfl
abbrev Nw:LX:=⟨⟨[Mv,KC,MT,Nj],[],[],0,19⟩,[(.ret,⟨[Lf],[],[],0,19⟩),(.ext 0,⟨[MH],[],[],0,19⟩)],[],[0,1,7,8],[4]⟩
def F9(s: (List Int×Int×Int×Int×Unit)×Unit×Unit):Nw.R:=
 br (decide (s.1.2.2.2.1<s.1.2.2.1)) (iteP (0<=s.1.2.2.2.1) ((s.1.1[s.1.2.2.2.1.toNat]?).bind λx5=>br (s.1.2.1==x5) (some (.inr (.inl (s.1.2.2.2,(()),(()))))) (some (.inl ((s.1.1,s.1.2.1,s.1.2.2.1,(aaV .i64 (s.1.2.2.2.1+1)),()),(()),(()))))) none) (some (.inr (.inr (((),()),(()),(())))))
def K0:=mh F9
def RA[dp] :=FM Tryz.f242 [0] Nw F9 [] [] (by kernel_rfl) λs=>by simp only[F9,tm];kernel_rfl
def Kx(a0:List Int)(a1:Int):Option (Int×Unit):=
 (K0 ((a0,a1,(a0.length:Int),0,()),(()),(()))).bind λe6=>Sum.elim (λe6_0=>some e6_0.1) (λ_=>some ((-1),())) e6
def Te[dp] :=C4 242 Tryz.f242 Ug HS (λx=>Kx x.1 x.2.1) [] [RA] (by kernel_rfl) λx=>by simp only[Kx,tm];kernel_rfl
def H1(a0:List Int)(a1:Int):Option (Bool×Unit):=
 (Kx a0 a1).bind λy1=>some ((decide (y1.1≥0)),())
def P9[dp] :=C4 224 Tryz.f224 Ug [.b] (λx=>H1 x.1 x.2.1) [Te] [] (by kernel_rfl) λx=>by simp only[H1,tm];kernel_rfl
def FQ(a0:List Int)(a1:Int):Option (Bool×Unit):=
 (H1 a0 a1).bind λy1=>some (y1.1,())
def Lm[dp] :=C4 191 Tryz.f191 Ug [.b] (λx=>FQ x.1 x.2.1) [P9] [] (by kernel_rfl) λx=>by simp only[FQ,tm];kernel_rfl
def Oi(a0:Int):Option (Int×Unit):=
 br (decide (a0≥4294967296)) (none) (br (decide (a0≥65536)) (none) (br (decide (a0≥256)) (none) (iteP (0<=(aaV .u8 a0)) ((sb0[(aaV .u8 a0).toNat]?).bind λx1=>some ((aaV .i64 (0+(aaV .i64 (x1.toNat:Int)))),())) none)))
def UN[dp] :=C4 265 Tryz.f265 [.ty (.i .u64)] HS (λx=>Oi x.1) [] [] (by kernel_rfl) λx=>by simp only[Oi,tm];kernel_rfl
def MX(a0:Int):Option (Int×Unit):=
 (Oi a0).bind λy1=>some (y1.1,())
def W5[dp] :=C4 246 Tryz.f246 [.ty (.i .u64)] HS (λx=>MX x.1) [UN] [] (by kernel_rfl) λx=>by simp only[MX,tm];kernel_rfl
def GJ(a0:Int):Option (Bool×Unit):=
 some ((!(a0==a0)),())
def RI[dp] :=C4 290 Tryz.f290 Tj [.b] (λx=>GJ x.1) [] [] (by kernel_rfl) λx=>by simp only[GJ,tm];kernel_rfl
def Gn(a0:Int)(a1:Int):Option (Bool×Unit):=
 (GJ a0).bind λy1=>br y1.1 ((GJ a1).bind λy2=>br (!y2.1) (some (true,())) (some ((decide (a0<a1)),()))) (some ((decide (a0<a1)),()))
def SQ[dp] :=C4 261 Tryz.f261 Za [.b] (λx=>Gn x.1 x.2.1) [RI] [] (by kernel_rfl) λx=>by simp only[Gn,tm];kernel_rfl
abbrev FX:LX:=⟨⟨[Nk,KC,O1,NQ,MT],[],GG,1,49⟩,[(.ext 2,⟨[Nk,KC,O1,NQ],[],GG,1,49⟩)],[],[0,1,2,6,7],[0,1,2,6]⟩
def CZ(s: (Unit×Int×Int×Int×Int×Unit)×Unit×List Int×Unit):FX.R:=
 br (decide (s.1.2.2.2.2.1>s.1.2.1)) (iteP (0<=s.1.2.2.2.2.1/\s.1.2.2.2.2.1< (s.2.2.1.length:Int)) ((s.2.2.1[s.1.2.2.2.2.1.toNat]?).bind λx10=>iteP (0<=(aaV .i64 (s.1.2.2.2.2.1-1))/\(aaV .i64 (s.1.2.2.2.2.1-1))< (s.2.2.1.length:Int)) ((s.2.2.1[(aaV .i64 (s.1.2.2.2.2.1-1)).toNat]?).bind λx11=>(Gn x10 x11).bind λy12=>br y12.1 (iteP (0<=(aaV .i64 (s.1.2.2.2.2.1-1))/\(aaV .i64 (s.1.2.2.2.2.1-1))< (s.2.2.1.length:Int)) ((s.2.2.1[(aaV .i64 (s.1.2.2.2.2.1-1)).toNat]?).bind λx13=>iteP (0<=s.1.2.2.2.2.1/\s.1.2.2.2.2.1< (s.2.2.1.length:Int)) ((s.2.2.1[s.1.2.2.2.2.1.toNat]?).bind λx14=>iteP (0<=s.1.2.2.2.2.1/\s.1.2.2.2.2.1< (s.2.2.1.length:Int)) (iteP (0<=(aaV .i64 (s.1.2.2.2.2.1-1))/\(aaV .i64 (s.1.2.2.2.2.1-1))< (s.2.2.1.length:Int)) ((s.2.2.1[s.1.2.2.2.2.1.toNat]?).bind λ_=>let z16:=s.2.2.1.set s.1.2.2.2.2.1.toNat x13;(z16[(aaV .i64 (s.1.2.2.2.2.1-1)).toNat]?).bind λ_=>some (.inl (((),s.1.2.1,s.1.2.2.1,s.1.2.2.2.1,(aaV .i64 (s.1.2.2.2.2.1-1)),()),(()),(z16.set ((aaV .i64 (s.1.2.2.2.2.1-1)).toNat) x14),()))) none) none) none) none) (some (.inr (((),s.1.2.1,s.1.2.2.1,s.1.2.2.2.1,()),(()),s.2.2)))) none) none) (some (.inr (((),s.1.2.1,s.1.2.2.1,s.1.2.2.2.1,()),(()),s.2.2)))
def DT:=mh CZ
def I9[dp] :=FM Tryz.f255 [0,0] FX CZ [SQ] [] (by kernel_rfl) λs=>by simp only[CZ,tm];kernel_rfl
abbrev FW:LX:=⟨⟨[Nk,KC,O1,NQ],[],GG,1,49⟩,[(.ext 0,⟨[],[],GG,1,49⟩)],[],[0,1,2,6],[]⟩
def CO(s: (Unit×Int×Int×Int×Unit)×Unit×List Int×Unit):FW.R:=
 br (decide (s.1.2.2.2.1<s.1.2.2.1)) ((DT (((),s.1.2.1,s.1.2.2.1,s.1.2.2.2.1,s.1.2.2.2),(()),s.2.2)).bind λe19=>some (.inl (((),e19.1.2.1,e19.1.2.2.1,(aaV .i64 (e19.1.2.2.2.1+1)),()),(()),e19.2.2))) (some (.inr ((()),(()),s.2.2)))
def DS:=mh CO
def I8[dp] :=FM Tryz.f255 [0] FW CO [] [I9] (by kernel_rfl) λs=>by simp only[CO,tm];kernel_rfl
def C2(a0:List Int)(a1:Int)(a2:Int):Option ((List Int)×Unit):=
 (DS (((),a1,a2,(aaV .i64 (a1+1)),()),(()),a0,())).bind λe20=>some e20.2.2
def Jp[dp] :=coI 255 Tryz.f255 (.i .i64) Za [] (λl x=>C2 l x.1 x.2.1) [] [I8] (by kernel_rfl) λl x=>by simp only[C2,tm];kernel_rfl
abbrev Hk:LX:=⟨⟨[Nk,KC,O1,K3,Uj,SC],[],GG,1,134⟩,[(.ret,⟨[],[],GG,1,134⟩)],[],[0,1,2,3,8,9],[]⟩
def DZ(s: (Unit×Int×Int×Int×Bool×Bool×Unit)×Unit×List Int×Unit):Hk.R:=
 br (decide ((aaV .i64 (s.1.2.2.1-s.1.2.1))<=12)) ((C2 s.2.2.1 s.1.2.1 s.1.2.2.1).bind λy7=>iteP (y7.1.length=s.2.2.1.length) (some (.inr ((()),(()),y7.1,()))) none) (br (s.1.2.2.2.1==0) (none) (br (!s.1.2.2.2.2.1) (none) (none)))
def Fz:=mh DZ
def Ld[dp] :=FM Tryz.f245 [0] Hk DZ [Jp] [] (by kernel_rfl) λs=>by simp only[DZ,tm,-eq_self];kernel_rfl
def Dt(a0:List Int)(a1:Int)(a2:Int)(a3:Int):Option ((List Int)×Unit):=
 (Fz (((),a1,a2,a3,true,true,()),(()),a0,())).bind λe8=>some e8.2.2
def Lx[dp] :=coI 245 Tryz.f245 (.i .i64) Xm [] (λl x=>Dt l x.1 x.2.1 x.2.2.1) [] [Ld] (by kernel_rfl) λl x=>by simp only[Dt,tm];kernel_rfl
def Fy(a0:List Int):Option ((List Int)×Unit):=
 (MX (aaV .u64 (a0.length:Int))).bind λy1=>(Dt a0 0 (a0.length:Int) y1.1).bind λy2=>iteP (y2.1.length=a0.length) (some (y2.1,())) none
def QY[dp] :=coI 226 Tryz.f226 (.i .i64) [] [] (λl _=>Fy l) [W5,Lx] [] (by kernel_rfl) λl x=>by simp only[Fy,tm,-eq_self];kernel_rfl
abbrev Kq:LX:=⟨⟨[Nk,K3,(4,.cl (.sub 0 (.i .i64))),LC],[],GG,0,61⟩,[(.ext 2,⟨[Nk,K3],[],GG,0,61⟩)],[],[0,3,4,5],[0,3]⟩
def EC(s: (Unit×Int×(Nat×Nat)×Int×Unit)×Unit×List Int×Unit):Kq.R:=
 br (decide (s.1.2.2.2.1< ((s.1.2.2.1.2:Nat):Int))) (iteP (0<=s.1.2.2.2.1/\s.1.2.2.2.1< ((s.1.2.2.1.2:Nat):Int)) ((s.2.2.1[(s.1.2.2.1.1+s.1.2.2.2.1.toNat)]?).bind λx9=>iteP (0<=(aaV .i64 (s.1.2.2.2.1-1))/\(aaV .i64 (s.1.2.2.2.1-1))< ((s.1.2.2.1.2:Nat):Int)) ((s.2.2.1[(s.1.2.2.1.1+(aaV .i64 (s.1.2.2.2.1-1)).toNat)]?).bind λx10=>br (!(x9==x10)) (iteP (0<=s.1.2.2.2.1/\s.1.2.2.2.1< ((s.1.2.2.1.2:Nat):Int)) ((s.2.2.1[(s.1.2.2.1.1+s.1.2.2.2.1.toNat)]?).bind λx11=>iteP (0<=s.1.2.1/\s.1.2.1< (s.2.2.1.length:Int)) ((s.2.2.1[s.1.2.1.toNat]?).bind λ_=>some (.inl (((),(aaV .i64 (s.1.2.1+1)),s.1.2.2.1,(aaV .i64 (s.1.2.2.2.1+1)),()),(()),(s.2.2.1.set s.1.2.1.toNat x11),()))) none) none) (some (.inl (((),s.1.2.1,s.1.2.2.1,(aaV .i64 (s.1.2.2.2.1+1)),()),(()),s.2.2)))) none) none) (some (.inr (((),s.1.2.1,()),(()),s.2.2)))
def Kk:=mh EC
def NV[dp] :=FM Tryz.f227 [0,0] Kq EC [] [] (by kernel_rfl) λs=>by simp only[EC,tm];kernel_rfl
abbrev Ko:LX:=⟨⟨[Nk,K3],[],GG,0,61⟩,[(.ret,⟨[Nk,(2,.cl (.sub 0 (.i .i64)))],[],GG,0,61⟩),(.ext 0,⟨[Nk,Nl],[],GG,0,61⟩)],[],[0,3],[0,2]⟩
def Dc(s:Rb×Unit×List Int×Unit):Ko.R:=
 br (decide (s.1.2.1< (s.2.2.1.length:Int))) (iteP (0<=s.1.2.1/\s.1.2.1< (s.2.2.1.length:Int)) ((s.2.2.1[s.1.2.1.toNat]?).bind λx3=>iteP (0<=(aaV .i64 (s.1.2.1-1))/\(aaV .i64 (s.1.2.1-1))< (s.2.2.1.length:Int)) ((s.2.2.1[(aaV .i64 (s.1.2.1-1)).toNat]?).bind λx4=>br (x3==x4) (iteP (0<=s.1.2.1/\s.1.2.1<=(s.2.2.1.length:Int)/\(s.2.2.1.length:Int)<=((s.2.2.1.length:Nat):Int)) ((Kk (((),s.1.2.1,((0+s.1.2.1.toNat),((s.2.2.1.length:Int).toNat-s.1.2.1.toNat)),1,()),(()),s.2.2)).bind λe16=>iteP (0<=e16.1.2.1/\e16.1.2.1<=(e16.2.2.1.length:Int)/\(e16.2.2.1.length:Int)<=((e16.2.2.1.length:Nat):Int)) (iteP ((0+e16.1.2.1.toNat)+((e16.2.2.1.length:Int).toNat-e16.1.2.1.toNat)<=e16.2.2.1.length) (iteP (0<=(0:Int)/\(0:Int)<=e16.1.2.1/\e16.1.2.1<=((e16.2.2.1.length:Nat):Int)) (some (.inr (.inl (((),((0+(0:Int).toNat),(e16.1.2.1.toNat-(0:Int).toNat)),()),(()),(e16.2.2.1.take (0+e16.1.2.1.toNat)++List.replicate ((e16.2.2.1.length:Int).toNat-e16.1.2.1.toNat) (0:Int)++e16.2.2.1.drop ((0+e16.1.2.1.toNat)+((e16.2.2.1.length:Int).toNat-e16.1.2.1.toNat))),())))) none) none) none) none) (some (.inl (((),(aaV .i64 (s.1.2.1+1)),()),(()),s.2.2)))) none) none) (some (.inr (.inr (((),(),()),(()),s.2.2))))
def HA:=mh Dc
def NU[dp] :=FM Tryz.f227 [0] Ko Dc [] [NV] (by kernel_rfl) λs=>by simp only[Dc,tm];kernel_rfl
def EA(a0:List Int):Option ((List Int)×Unit):=
 br (decide ((a0.length:Int)<2)) (some (a0,())) ((HA (((),1,()),(()),a0,())).bind λe17=>Sum.elim (λe17_0=>iteP (e17_0.1.2.1.1=0/\e17_0.1.2.1.2<=e17_0.2.2.1.length) (some ((e17_0.2.2.1.take e17_0.1.2.1.2),())) (iteP (e17_0.1.2.1.1+e17_0.1.2.1.2<=e17_0.2.2.1.length) (some (((e17_0.2.2.1.drop e17_0.1.2.1.1).take e17_0.1.2.1.2),())) none)) (λe17_1=>some e17_1.2.2) e17)
def OW[dp] :=coM 227 Tryz.f227 (.i .i64) [] Jt (λl _=>EA l) [] [NU] (by kernel_rfl) λl x=>by simp only[EA,tm,-eq_self];kernel_rfl
def Gl(a0:List Int):Option ((List Int)×Unit):=
 (Gt a0).bind λy1=>(Fy y1.1).bind λy2=>iteP (y2.1.length=y1.1.length) ((EA y2.1).bind λy3=>some (y3.1,())) none
def PG[dp] :=C4 195 Tryz.f195 U9 Jt (λx=>Gl x.1) [OV,QY,OW] [] (by kernel_rfl) λx=>by simp only[Gl,tm,-eq_self];kernel_rfl
def ED(a0:Int)(a1:List Int):Option (Bool×Unit):=
 (FQ a1 a0).bind λy1=>some (y1.1,())
def Ki[dp] :=C4 244 Tryz.f244 [.ty (.i .i64),.pr (.ls (.i .i64))] [.b] (λx=>ED x.1 x.2.1) [Lm] [] (by kernel_rfl) λx=>by simp only[ED,tm];kernel_rfl
abbrev E6:LX:=⟨⟨[Mv,(1,.fn 244 [.pro (.ls (.i .i64))]),MT,Nj],[],[],0,19⟩,[(.ret,⟨[Lf],[],[],0,19⟩),(.ext 0,⟨[MH],[],[],0,19⟩)],[],[0,1,7,8],[4]⟩
def CY(s: (List Int×(List Int×Unit)×Int×Int×Unit)×Unit×Unit):E6.R:=
 br (decide (s.1.2.2.2.1<s.1.2.2.1)) (iteP (0<=s.1.2.2.2.1) ((s.1.1[s.1.2.2.2.1.toNat]?).bind λx5=>(ED x5 s.1.2.1.1).bind λy6=>br y6.1 (some (.inr (.inl (s.1.2.2.2,(()),(()))))) (some (.inl ((s.1.1,s.1.2.1,s.1.2.2.1,(aaV .i64 (s.1.2.2.2.1+1)),()),(()),(()))))) none) (some (.inr (.inr (((),()),(()),(())))))
def D9:=mh CY
def Hx[dp] :=FM Tryz.f171 [0] E6 CY [Ki] [] (by kernel_rfl) λs=>by simp only[CY,tm];kernel_rfl
def DE(a0:List Int)(a1_0:List Int):Option (Int×Unit):=
 (D9 ((a0,(a1_0,()),(a0.length:Int),0,()),(()),(()))).bind λe7=>Sum.elim (λe7_0=>some e7_0.1) (λ_=>some ((-1),())) e7
def HO[dp] :=C4 171 Tryz.f171 [.ty (.ls (.i .i64)),.fn 244 Jt] HS (λx=>DE x.1 x.2.1.1) [] [Hx] (by kernel_rfl) λx=>by simp only[DE,tm];kernel_rfl
abbrev EI:LX:=⟨⟨[Nk,(1,.fn 244 [.pro (.ls (.i .i64))]),LC,NQ],[],GG,0,42⟩,[(.ext 0,⟨[Nk,LC],[],GG,0,42⟩)],[],[0,1,5,6],[0,5]⟩
def CU(s: (Unit×(List Int×Unit)×Int×Int×Unit)×Unit×List Int×Unit):EI.R:=
 br (decide (s.1.2.2.2.1< (s.2.2.1.length:Int))) (iteP (0<=s.1.2.2.2.1/\s.1.2.2.2.1< (s.2.2.1.length:Int)) ((s.2.2.1[s.1.2.2.2.1.toNat]?).bind λx6=>(ED x6 s.1.2.1.1).bind λy7=>br (!y7.1) (iteP (0<=s.1.2.2.1/\s.1.2.2.1< (s.2.2.1.length:Int)) ((s.2.2.1[s.1.2.2.1.toNat]?).bind λ_=>some (.inl (((),s.1.2.1,(aaV .i64 (s.1.2.2.1+1)),(aaV .i64 (s.1.2.2.2.1+1)),()),(()),(s.2.2.1.set s.1.2.2.1.toNat x6),()))) none) (some (.inl (((),s.1.2.1,s.1.2.2.1,(aaV .i64 (s.1.2.2.2.1+1)),()),(()),s.2.2)))) none) (some (.inr (((),s.1.2.2.1,()),(()),s.2.2)))
def EH:=mh CU
def GH[dp] :=FM Tryz.f243 [0] EI CU [Ki] [] (by kernel_rfl) λs=>by simp only[CU,tm];kernel_rfl
def C3(a0:List Int)(a1_0:List Int):Option ((List Int)×Unit):=
 (DE a0 a1_0).bind λy1=>br (y1.1==(-1)) (some (a0,())) ((EH (((),(a1_0,()),y1.1,(aaV .i64 (y1.1+1)),()),(()),a0,())).bind λe12=>iteP (0<=e12.1.2.1/\e12.1.2.1<=(e12.2.2.1.length:Int)/\(e12.2.2.1.length:Int)<=((e12.2.2.1.length:Nat):Int)) (iteP ((0+e12.1.2.1.toNat)+((e12.2.2.1.length:Int).toNat-e12.1.2.1.toNat)<=e12.2.2.1.length) (iteP (0<=(0:Int)/\(0:Int)<=e12.1.2.1/\e12.1.2.1<=((e12.2.2.1.length:Nat):Int)) (iteP ((0+(0:Int).toNat)=0/\(e12.1.2.1.toNat-(0:Int).toNat)<=(e12.2.2.1.take (0+e12.1.2.1.toNat)++List.replicate ((e12.2.2.1.length:Int).toNat-e12.1.2.1.toNat) (0:Int)++e12.2.2.1.drop ((0+e12.1.2.1.toNat)+((e12.2.2.1.length:Int).toNat-e12.1.2.1.toNat))).length) (some (((e12.2.2.1.take (0+e12.1.2.1.toNat)++List.replicate ((e12.2.2.1.length:Int).toNat-e12.1.2.1.toNat) (0:Int)++e12.2.2.1.drop ((0+e12.1.2.1.toNat)+((e12.2.2.1.length:Int).toNat-e12.1.2.1.toNat))).take (e12.1.2.1.toNat-(0:Int).toNat)),())) (iteP ((0+(0:Int).toNat)+(e12.1.2.1.toNat-(0:Int).toNat)<=(e12.2.2.1.take (0+e12.1.2.1.toNat)++List.replicate ((e12.2.2.1.length:Int).toNat-e12.1.2.1.toNat) (0:Int)++e12.2.2.1.drop ((0+e12.1.2.1.toNat)+((e12.2.2.1.length:Int).toNat-e12.1.2.1.toNat))).length) (some ((((e12.2.2.1.take (0+e12.1.2.1.toNat)++List.replicate ((e12.2.2.1.length:Int).toNat-e12.1.2.1.toNat) (0:Int)++e12.2.2.1.drop ((0+e12.1.2.1.toNat)+((e12.2.2.1.length:Int).toNat-e12.1.2.1.toNat))).drop (0+(0:Int).toNat)).take (e12.1.2.1.toNat-(0:Int).toNat)),())) none)) none) none) none)
def GX[dp] :=coM 243 Tryz.f243 (.i .i64) [.fn 244 Jt] Jt (λl x=>C3 l x.1.1) [HO] [GH] (by kernel_rfl) λl x=>by simp only[C3,tm,-eq_self];kernel_rfl
def Fq(a0:List Int)(a1:List Int):Option ((List Int)×Unit):=
 (Gl a0).bind λy1=>(C3 y1.1 a1).bind λy2=>some (y2.1,())
def Ph[dp] :=C4 225 Tryz.f225 Tl Jt (λx=>Fq x.1 x.2.1) [PG,GX] [] (by kernel_rfl) λx=>by simp only[Fq,tm];kernel_rfl
def Gw(a0:List Int)(a1:List Int):Option ((List Int)×Unit):=
 (Fq a0 a1).bind λy1=>(Fq a0 y1.1).bind λy2=>some (y2.1,())
def PZ[dp] :=C4 194 Tryz.f194 Tl Jt (λx=>Gw x.1 x.2.1) [Ph] [] (by kernel_rfl) λx=>by simp only[Gw,tm];kernel_rfl
def EE(a0:mt):Option (Bool×Unit):=
 (CQ a0.epoch 1 20).bind λy1=>br y1.1 ((Fd a0.replicas).bind λy2=>br y2.1 ((Fd a0.witnesses).bind λy3=>br y3.1 ((FQ a0.replicas a0.primary).bind λy4=>br y4.1 ((Gw a0.replicas a0.witnesses).bind λy5=>some (((y5.1.length:Int)==0),())) (some (false,()))) (some (false,()))) (some (false,()))) (some (false,()))
def H2[dp] :=C4 121 Tryz.f121 Va [.b] (λx=>EE x.1) [EK,SR,Lm,PZ] [] (by kernel_rfl) λx=>by simp only[EE,tm];kernel_rfl
abbrev MJ:LX:=⟨⟨[HQ,(6,.cl (.ro (.st .config))),MT,Nj],[Vd],[],0,30⟩,[(.ret,⟨[HQ,K2],[Vd],[],0,30⟩),(.ext 0,⟨[HQ,Nl],[Vd],[],0,30⟩)],[],[1,6,7,8],[1,2]⟩
def FD(s: (Unit×List mt×Int×Int×Unit)×(Z1×Unit)×Unit):MJ.R:=
 br (decide (s.1.2.2.2.1<s.1.2.2.1)) (iteP (0<=s.1.2.2.2.1) ((s.1.2.1[s.1.2.2.2.1.toNat]?).bind λx6=>(EE x6).bind λy7=>br (!y7.1) (some (.inr (.inl (((),false,()),s.2.1,(()))))) (br (!(x6.epoch==(aaV .i64 (s.1.2.2.2.1+1)))) (some (.inr (.inl (((),false,()),s.2.1,(()))))) (some (.inl (((),s.1.2.1,s.1.2.2.1,(aaV .i64 (s.1.2.2.2.1+1)),()),s.2.1,(())))))) none) (some (.inr (.inr (((),(),()),s.2.1,(())))))
def Kd:=mh FD
def Qd[dp] :=FM Tryz.f138 [0] MJ FD [H2] [] (by kernel_rfl) λs=>by simp only[FD,tm];kernel_rfl
def Fe(a0:jr):Option (Bool×Unit):=
 (Kd (((),a0.configs,(a0.configs.length:Int),0,()),((a0.configs,a0.activated,()),()),(()))).bind λe8=>Sum.elim (λe8_0=>some e8_0.1.2) (λe8_1=>(CQ e8_1.2.1.1.2.1 0 (e8_1.2.1.1.1.length:Int)).bind λy9=>some (y9.1,())) e8
def JL[dp] :=C4 138 Tryz.f138 Vb [.b] (λx=>Fe x.1) [EK] [Qd] (by kernel_rfl) λx=>by simp only[Fe,tm];kernel_rfl
def E0(a0:sS):Option (Bool×Unit):=
 br ((a0.epoch==0)&&((a0.holder==0)&&((a0.ends==0)&&true))) (some (true,())) ((CQ a0.epoch 1 20).bind λy1=>br y1.1 ((CQ a0.holder 0 4).bind λy2=>br y2.1 ((CQ a0.ends 1 1049).bind λy3=>some (y3.1,())) (some (false,()))) (some (false,())))
def Pe[dp] :=C4 134 Tryz.f134 VI [.b] (λx=>E0 x.1) [EK] [] (by kernel_rfl) λx=>by simp only[E0,tm];kernel_rfl
def IE(a0:sV):Option (Bool×Unit):=
 (CQ a0.rack 0 9).bind λy1=>br (!y1.1) (some (true,())) ((CQ a0.capacity 0 9).bind λy2=>br (!y2.1) (some (true,())) ((CQ a0.load 0 99).bind λy3=>some ((!y3.1),())))
def Qz[dp] :=C4 209 Tryz.f209 [.ty (.st .place)] [.b] (λx=>IE x.1) [EK] [] (by kernel_rfl) λx=>by simp only[IE,tm];kernel_rfl
abbrev FA:LX:=⟨⟨[PP,(1,.cl (.fc 209)),MT,Nj],[],[],0,19⟩,[(.ret,⟨[Lf],[],[],0,19⟩),(.ext 0,⟨[MH],[],[],0,19⟩)],[],[0,1,7,8],[4]⟩
def C1(s: (List sV×Unit×Int×Int×Unit)×Unit×Unit):FA.R:=
 br (decide (s.1.2.2.2.1<s.1.2.2.1)) (iteP (0<=s.1.2.2.2.1) ((s.1.1[s.1.2.2.2.1.toNat]?).bind λx4=>(IE x4).bind λy5=>br y5.1 (some (.inr (.inl (s.1.2.2.2,(()),(()))))) (some (.inl ((s.1.1,(),s.1.2.2.1,(aaV .i64 (s.1.2.2.2.1+1)),()),(()),(()))))) none) (some (.inr (.inr (((),()),(()),(())))))
def Em:=mh C1
def Ie[dp] :=FM Tryz.f230 [0] FA C1 [Qz] [] (by kernel_rfl) λs=>by simp only[C1,tm];kernel_rfl
def DR(a0:List sV):Option (Int×Unit):=
 (Em ((a0,(),(a0.length:Int),0,()),(()),(()))).bind λe6=>Sum.elim (λe6_0=>some e6_0.1) (λ_=>some ((-1),())) e6
def I1[dp] :=C4 230 Tryz.f230 Zb HS (λx=>DR x.1) [] [Ie] (by kernel_rfl) λx=>by simp only[DR,tm];kernel_rfl
def DB(a0:List sV):Option (Bool×Unit):=
 (DR a0).bind λy1=>some ((decide (y1.1≥0)),())
def HL[dp] :=C4 208 Tryz.f208 Zb [.b] (λx=>DB x.1) [I1] [] (by kernel_rfl) λx=>by simp only[DB,tm];kernel_rfl
def Ii(a0:List sV):Option (Bool×Unit):=
 br ((a0.length:Int)==5) ((DB a0).bind λy1=>some ((!y1.1),())) (some (false,()))
def TU[dp] :=C4 155 Tryz.f155 Xn [.b] (λx=>Ii x.1) [HL] [] (by kernel_rfl) λx=>by simp only[Ii,tm];kernel_rfl
def Ij(a0:Op):Option (Bool×Unit):=
 (CQ a0.client 0 2).bind λy1=>br (!y1.1) (some (false,())) ((CQ a0.seq 1 99).bind λy2=>br (!y2.1) (some (false,())) ((CQ a0.object 0 2).bind λy3=>br (!y3.1) (some (false,())) ((CQ a0.value 0 9).bind λy4=>br (!y4.1) (some (false,())) (br (a0.kind==1) (br (a0.old==0) (some (true,())) (br (a0.kind==2) ((CQ a0.old 0 9).bind λy5=>some (y5.1,())) (some (false,())))) (br (a0.kind==2) ((CQ a0.old 0 9).bind λy6=>some (y6.1,())) (some (false,())))))))
def TW[dp] :=C4 203 Tryz.f203 Uh [.b] (λx=>Ij x.1) [EK] [] (by kernel_rfl) λx=>by simp only[Ij,tm];kernel_rfl
abbrev SF:LX:=⟨⟨[Kl,(5,.cl (.ro (.st .entry))),NQ,MT],[],[],0,41⟩,[(.ret,⟨[Kl,K2],[],[],0,41⟩),(.ext 0,⟨[Kl,Nl],[],[],0,41⟩)],[],[0,5,6,7],[0,2]⟩
def KF(s:Zt×Unit×Unit):SF.R:=
 br (decide (s.1.2.2.2.1<s.1.2.2.1)) (iteP (0<=s.1.2.2.2.1) ((s.1.2.1[s.1.2.2.2.1.toNat]?).bind λx5=>(CQ x5.epoch 1 20).bind λy6=>br (!y6.1) (some (.inr (.inl ((s.1.1,false,()),(()),(()))))) (br (decide (s.1.2.2.2.1>0)) (iteP (0<=(aaV .i64 (s.1.2.2.2.1-1))) ((s.1.1[(aaV .i64 (s.1.2.2.2.1-1)).toNat]?).bind λx7=>br (decide (x5.epoch<x7.epoch)) (some (.inr (.inl ((s.1.1,false,()),(()),(()))))) ((Ij x5.op).bind λy8=>br (!y8.1) (some (.inr (.inl ((s.1.1,false,()),(()),(()))))) (some (.inl ((s.1.1,s.1.2.1,s.1.2.2.1,(aaV .i64 (s.1.2.2.2.1+1)),()),(()),(())))))) none) ((Ij x5.op).bind λy9=>br (!y9.1) (some (.inr (.inl ((s.1.1,false,()),(()),(()))))) (some (.inl ((s.1.1,s.1.2.1,s.1.2.2.1,(aaV .i64 (s.1.2.2.2.1+1)),()),(()),(()))))))) none) (some (.inr (.inr ((s.1.1,(),()),(()),(())))))
def Pp:=mh KF
def WC[dp] :=FM Tryz.f140 [0] SF KF [EK,TW] [] (by kernel_rfl) λs=>by simp only[KF,tm];kernel_rfl
def IG(a0:List pS):Option (Bool×Unit):=
 (Pp ((a0,a0,(a0.length:Int),0,()),(()),(()))).bind λe10=>Sum.elim (λe10_0=>some e10_0.1.2) (λe10_1=>some ((decide ((e10_1.1.1.length:Int)<=16)),())) e10
def Qq[dp] :=C4 140 Tryz.f140 Ot [.b] (λx=>IG x.1) [] [WC] (by kernel_rfl) λx=>by simp only[IG,tm];kernel_rfl
abbrev Nv:LX:=⟨⟨[Mv,O0,Ni,Xw],[],[],0,26⟩,[(.ret,⟨[N2],[],[],0,26⟩),(.ext 0,⟨[MH],[],[],0,26⟩)],[],[0,1,12,13],[4]⟩
def Ft(s:Zs×Unit×Unit):Nv.R:=
 br (decide (s.1.2.2.2.1<s.1.2.2.1)) (iteP (0<=s.1.2.2.2.1) ((s.1.1[s.1.2.2.2.1.toNat]?).bind λx5=>iteP (0<=s.1.2.2.2.1) ((s.1.2.1[s.1.2.2.2.1.toNat]?).bind λx6=>br (!(x5==x6)) (some (.inr (.inl ((false,()),(()),(()))))) (some (.inl ((s.1.1,s.1.2.1,s.1.2.2.1,(aaV .i64 (s.1.2.2.2.1+1)),()),(()),(()))))) none) none) (some (.inr (.inr (((),()),(()),(())))))
def KZ:=mh Ft
def Rz[dp] :=FM Tryz.f74 [0] Nv Ft [] [] (by kernel_rfl) λs=>by simp only[Ft,tm];kernel_rfl
def Gu(a0:List Int)(a1:List Int):Option (Bool×Unit):=
 br (!((a0.length:Int)==(a1.length:Int))) (some (false,())) ((KZ ((a0,a1,(a0.length:Int),0,()),(()),(()))).bind λe7=>Sum.elim (λe7_0=>some e7_0.1) (λ_=>some (true,())) e7)
def OX[dp] :=C4 74 Tryz.f74 Tl [.b] (λx=>Gu x.1 x.2.1) [] [Rz] (by kernel_rfl) λx=>by simp only[Gu,tm];kernel_rfl
def Gb(a0:List Int)(a1:List Int):Option (Bool×Unit):=
 (Gu a0 a1).bind λy1=>some (y1.1,())
def QC[dp] :=C4 206 Tryz.f206 Tl [.b] (λx=>Gb x.1 x.2.1) [OX] [] (by kernel_rfl) λx=>by simp only[Gb,tm];kernel_rfl
def Eh(a0:mt)(a1:mt):Option (Bool×Unit):=
 br (a0.epoch==a1.epoch) (br (a0.primary==a1.primary) ((Gb a0.replicas a1.replicas).bind λy1=>br y1.1 ((Gb a0.witnesses a1.witnesses).bind λy2=>some (y2.1,())) (some (false,()))) (some (false,()))) (some (false,()))
def Ha[dp] :=C4 151 Tryz.f151 YY [.b] (λx=>Eh x.1 x.2.1) [QC] [] (by kernel_rfl) λx=>by simp only[Eh,tm];kernel_rfl
def G3(a0:List pS):Option (Int×Unit):=
 br ((a0.length:Int)==0) (some (0,())) (iteP (0<=(aaV .i64 ((a0.length:Int)-1))) ((a0[(aaV .i64 ((a0.length:Int)-1)).toNat]?).bind λx1=>some (x1.epoch,())) none)
def Na[dp] :=C4 141 Tryz.f141 Ot HS (λx=>G3 x.1) [] [] (by kernel_rfl) λx=>by simp only[G3,tm];kernel_rfl
def IH(a0:mt)(a1:Int):Option (Int×Unit):=
 (EE a0).bind λy1=>br (!y1.1) (some (0,())) (br (a1==a0.primary) (some (1,())) ((FQ a0.replicas a1).bind λy2=>br y2.1 (some (2,())) ((FQ a0.witnesses a1).bind λy3=>br y3.1 (some (3,())) (some (0,())))))
def QF[dp] :=C4 123 Tryz.f123 YZ HS (λx=>IH x.1 x.2.1) [H2,Lm] [] (by kernel_rfl) λx=>by simp only[IH,tm];kernel_rfl
def MY(a0:Int)(a1:List pS):Option (Bool×Unit):=
 (IG a1).bind λy1=>br y1.1 (br (decide ((a1.length:Int)<=3)) ((CQ a0 0 (aaV .i64 (16-(a1.length:Int)))).bind λy2=>br y2.1 (br (a0==0) (some (true,())) (some (((a1.length:Int)==3),()))) (some (false,()))) (some (false,()))) (some (false,()))
def W6[dp] :=C4 172 Tryz.f172 Y5 [.b] (λx=>MY x.1 x.2.1) [Qq,EK] [] (by kernel_rfl) λx=>by simp only[MY,tm];kernel_rfl
def FI(a0:oU)(a1:Int):Option (Bool×Unit):=
 (CQ a0.version 1 2).bind λy1=>br (!y1.1) (some (false,())) ((CQ a0.epoch 0 20).bind λy2=>br (!y2.1) (some (false,())) ((IG a0.log).bind λy3=>br (!y3.1) (some (false,())) ((IG a0.learned).bind λy4=>br (!y4.1) (some (false,())) ((CQ a0.first 0 16).bind λy5=>br (!y5.1) (some (false,())) (br (decide ((aaV .i64 (a0.first+(a0.log.length:Int)))>16)) (some (false,())) ((CQ a0.commit 0 (aaV .i64 (a0.first+(a0.log.length:Int)))).bind λy6=>br (!y6.1) (some (false,())) ((Eh a0.config (⟨0,0,([]:List Int),([]:List Int)⟩:mt)).bind λy7=>br y7.1 (br (a0.first==0) (br (a0.commit==0) (some (((a0.log.length:Int)==0),())) (some (false,()))) (some (false,()))) (br (!a0.intact) (some (false,())) (br (decide (a0.epoch<a0.config.epoch)) (some (false,())) ((G3 a0.log).bind λy8=>br (decide (y8.1>a0.config.epoch)) (some (false,())) ((IH a0.config a1).bind λy9=>br (y9.1==1) (some ((a0.first==0),())) (br (y9.1==2) (some ((a0.first==0),())) (br (y9.1==3) ((MY a0.first a0.log).bind λy12=>some (y12.1,())) (some (false,())))))))))))))))
def Mx[dp] :=C4 156 Tryz.f156 Tm [.b] (λx=>FI x.1 x.2.1) [EK,Qq,Ha,Na,QF,W6] [] (by kernel_rfl) λx=>by simp only[FI,tm];kernel_rfl
def G0(a0:jr)(a1:Int):Option (mt×Bool×Unit):=
 (Fe a0).bind λy1=>br (!y1.1) (some ((⟨0,0,([]:List Int),([]:List Int)⟩:mt),false,())) ((CQ a1 1 (a0.configs.length:Int)).bind λy2=>br (!y2.1) (some ((⟨0,0,([]:List Int),([]:List Int)⟩:mt),false,())) (iteP (0<=(aaV .i64 (a1-1))) ((a0.configs[(aaV .i64 (a1-1)).toNat]?).bind λx3=>(D5 x3).bind λy4=>some (y4.1,true,())) none))
def QB[dp] :=C4 157 Tryz.f157 VJ Wx (λx=>G0 x.1 x.2.1) [JL,EK,IY] [] (by kernel_rfl) λx=>by simp only[G0,tm];kernel_rfl
abbrev K4:LX:=⟨⟨[HQ,(57,.cl (.ro (.st .server))),(58,.cl (.int .i64)),(59,.cl (.int .i64))],[I5],[],0,118⟩,[(.ret,⟨[K2],[],[],0,118⟩),(.ext 0,⟨[Nl],[],[],0,118⟩)],[],[1,57,58,59],[2]⟩
def EM(s: (Unit×List oU×Int×Int×Unit)×(L8×Unit)×Unit):K4.R:=
 br (decide (s.1.2.2.2.1<s.1.2.2.1)) (iteP (0<=s.1.2.2.2.1) ((s.1.2.1[s.1.2.2.2.1.toNat]?).bind λx20=>(FI x20 s.1.2.2.2.1).bind λy21=>br (!y21.1) (some (.inr (.inl ((false,()),(()),(()))))) (br (decide (x20.epoch>(s.2.1.1.2.2.2.1.length:Int))) (some (.inr (.inl ((false,()),(()),(()))))) ((G3 x20.learned).bind λy22=>br (decide (y22.1>s.2.1.1.2.2.2.2.1)) (some (.inr (.inl ((false,()),(()),(()))))) ((Eh x20.config (⟨0,0,([]:List Int),([]:List Int)⟩:mt)).bind λy23=>br y23.1 (some (.inl (((),s.1.2.1,s.1.2.2.1,(aaV .i64 (s.1.2.2.2.1+1)),()),s.2.1,(())))) ((G0 (⟨s.2.1.1.2.2.2.1,s.2.1.1.2.2.2.2.1⟩:jr) x20.config.epoch).bind λy24=>br (!y24.2.1) (some (.inr (.inl ((false,()),(()),(()))))) ((Eh y24.1 x20.config).bind λy25=>br (!y25.1) (some (.inr (.inl ((false,()),(()),(()))))) (br (decide (x20.config.epoch>s.2.1.1.2.2.2.2.1)) (some (.inr (.inl ((false,()),(()),(()))))) (some (.inl (((),s.1.2.1,s.1.2.2.1,(aaV .i64 (s.1.2.2.2.1+1)),()),s.2.1,(()))))))))))) none) (some (.inr (.inr (((),()),(()),(())))))
def Ia:=mh EM
def Ow[dp] :=FM Tryz.f77 [0] K4 EM [Mx,Na,Ha,QB] [] (by kernel_rfl) λs=>by simp only[EM,tm];kernel_rfl
def Dx(a0:oQ):Option (Bool×Unit):=
 (CQ a0.now 0 999).bind λy1=>br (!y1.1) (some (false,())) (br (!((a0.servers.length:Int)==5)) (some (false,())) ((H5 a0.sides).bind λy2=>br (!y2.1) (some (false,())) ((Fe a0.master).bind λy3=>br (!y3.1) (some (false,())) ((E0 a0.lease).bind λy4=>br (!y4.1) (some (false,())) ((Ii a0.places).bind λy5=>br (!y5.1) (some (false,())) ((CQ a0.masterUp 0 3).bind λy6=>br (!y6.1) (some (false,())) (br (decide (a0.lease.epoch>a0.master.activated)) (some (false,())) ((Ia (((),a0.servers,(a0.servers.length:Int),0,()),((a0.now,a0.servers,a0.sides,a0.master.configs,a0.master.activated,a0.masterUp,a0.lease.epoch,a0.lease.holder,a0.lease.ends,a0.places,()),()),(()))).bind λe26=>Sum.elim (λe26_0=>some e26_0.1) (λ_=>some (true,())) e26))))))))
def Ht[dp] :=C4 77 Tryz.f77 L5 [.b] (λx=>Dx x.1) [EK,QA,JL,Pe,TU] [Ow] (by kernel_rfl) λx=>by simp only[Dx,tm];kernel_rfl
def Gv(a0:oU):Option ((List pS)×Unit):=
 br (decide (a0.first<0)) (some (([]:List pS),())) ((CQ a0.commit a0.first (aaV .i64 (a0.first+(a0.log.length:Int)))).bind λy1=>br (!y1.1) (some (([]:List pS),())) (iteP (0<=(0:Int)/\(0:Int)<=(aaV .i64 (a0.commit-a0.first))/\(aaV .i64 (a0.commit-a0.first))<=(a0.log.length:Int)) ((DI ((a0.log.drop (0:Int).toNat).take ((aaV .i64 (a0.commit-a0.first)).toNat-(0:Int).toNat))).bind λy2=>some (y2.1,())) none))
def PY[dp] :=C4 136 Tryz.f136 SA Tn (λx=>Gv x.1) [EK,Hf] [] (by kernel_rfl) λx=>by simp only[Gv,tm];kernel_rfl
def JR(a0:oU)(a1:Int):Option (Bool×Unit):=
 (FQ a0.config.replicas a1).bind λy1=>some (y1.1,())
def TY[dp] :=C4 118 Tryz.f118 Tm [.b] (λx=>JR x.1 x.2.1) [Lm] [] (by kernel_rfl) λx=>by simp only[JR,tm];kernel_rfl
def E9(a0:oU)(a1:Int):Option ((List pS)×Unit):=
 (Gv a0).bind λy1=>(JR a0 a1).bind λy2=>br y2.1 (br (decide ((y1.1.length:Int)>(a0.learned.length:Int))) (some (y1.1,())) ((DI a0.learned).bind λy4=>some (y4.1,()))) ((DI a0.learned).bind λy5=>some (y5.1,()))
def Mz[dp] :=C4 60 Tryz.f60 Tm Tn (λx=>E9 x.1 x.2.1) [PY,TY,Hf] [] (by kernel_rfl) λx=>by simp only[E9,tm];kernel_rfl
def KJ(a0:oQ)(a1:Int):Option (Bool×Unit):=
 iteP (0<=a1) ((a0.servers[a1.toNat]?).bind λx1=>br x1.up (iteP (0<=a1) ((a0.sides[a1.toNat]?).bind λx2=>some ((x2==0),())) none) (some (false,()))) none
def UQ[dp] :=C4 80 Tryz.f80 K1 [.b] (λx=>KJ x.1 x.2.1) [] [] (by kernel_rfl) λx=>by simp only[KJ,tm];kernel_rfl
abbrev HB:LX:=⟨⟨[HQ,K3,Lf,(13,.cl (.ro (.st .server))),(14,.cl (.int .i64)),(15,.cl (.int .i64))],[I5],[],0,40⟩,[(.ext 0,⟨[K3],[],[],0,40⟩)],[],[1,3,4,13,14,15],[3]⟩
def EB(s: (Unit×Int×Int×List oU×Int×Int×Unit)×(L8×Unit)×Unit):HB.R:=
 br (decide (s.1.2.2.2.2.2.1<s.1.2.2.2.2.1)) (iteP (0<=s.1.2.2.2.2.2.1) ((s.1.2.2.2.1[s.1.2.2.2.2.2.1.toNat]?).bind λx17=>(E9 x17 s.1.2.2.2.2.2.1).bind λy18=>(KJ (⟨s.2.1.1.1,s.2.1.1.2.1,s.2.1.1.2.2.1,(⟨s.2.1.1.2.2.2.1,s.2.1.1.2.2.2.2.1⟩:jr),s.2.1.1.2.2.2.2.2.1,(⟨s.2.1.1.2.2.2.2.2.2.1,s.2.1.1.2.2.2.2.2.2.2.1,s.2.1.1.2.2.2.2.2.2.2.2.1⟩:sS),s.2.1.1.2.2.2.2.2.2.2.2.2.1⟩:oQ) s.1.2.2.2.2.2.1).bind λy19=>let j22 (p20:Int) (p21:Int):HB.R:=some (.inl (((),p20,p21,s.1.2.2.2.1,s.1.2.2.2.2.1,(aaV .i64 (s.1.2.2.2.2.2.1+1)),()),s.2.1,(())));br y19.1 (br (decide (s.1.2.1<0)) (j22 s.1.2.2.2.2.2.1 (y18.1.length:Int)) (br (decide ((y18.1.length:Int)>s.1.2.2.1)) (j22 s.1.2.2.2.2.2.1 (y18.1.length:Int)) (j22 s.1.2.1 s.1.2.2.1))) (j22 s.1.2.1 s.1.2.2.1)) none) (some (.inr ((s.1.2.1,()),(()),(()))))
def Kj:=mh EB
def NR[dp] :=FM Tryz.f14 [0] HB EB [Mz,UQ] [] (by kernel_rfl) λs=>by simp only[EB,tm];kernel_rfl
def Ec(a0:oQ):Option (Int×Unit):=
 (Dx a0).bind λy1=>br (!y1.1) (some ((-1),())) ((Kj (((),(-1),0,a0.servers,(a0.servers.length:Int),0,()),((a0.now,a0.servers,a0.sides,a0.master.configs,a0.master.activated,a0.masterUp,a0.lease.epoch,a0.lease.holder,a0.lease.ends,a0.places,()),()),(()))).bind λe23=>some e23.1)
def Ln[dp] :=C4 14 Tryz.f14 L5 HS (λx=>Ec x.1) [Ht] [NR] (by kernel_rfl) λx=>by simp only[Ec,tm];kernel_rfl
def D3(a0:jr):Option (mt×Bool×Unit):=
 (G0 a0 a0.activated).bind λy1=>some (y1.1,y1.2.1,())
def My[dp] :=C4 94 Tryz.f94 Vb Wx (λx=>D3 x.1) [QB] [] (by kernel_rfl) λx=>by simp only[D3,tm];kernel_rfl
def FB(a0:Int)(a1:oQ)(a2:mt):Option (Bool×Unit):=
 iteP (0<=a0) ((a1.servers[a0.toNat]?).bind λx1=>some ((x1.config.epoch==a2.epoch),())) none
def MS[dp] :=C4 99 Tryz.f99 Zc [.b] (λx=>FB x.1 x.2.1 x.2.2.1) [] [] (by kernel_rfl) λx=>by simp only[FB,tm];kernel_rfl
abbrev EV:LX:=⟨⟨[Mv,(1,.fn 99 ZC),MT,Nj],[],[],0,19⟩,[(.ret,⟨[Lf],[],[],0,19⟩),(.ext 0,⟨[MH],[],[],0,19⟩)],[],[0,1,7,8],[4]⟩
def CV(s: (List Int×Zu×Int×Int×Unit)×Unit×Unit):EV.R:=
 br (decide (s.1.2.2.2.1<s.1.2.2.1)) (iteP (0<=s.1.2.2.2.1) ((s.1.1[s.1.2.2.2.1.toNat]?).bind λx6=>(FB x6 s.1.2.1.1 s.1.2.1.2.1).bind λy7=>br y7.1 (some (.inr (.inl (s.1.2.2.2,(()),(()))))) (some (.inl ((s.1.1,s.1.2.1,s.1.2.2.1,(aaV .i64 (s.1.2.2.2.1+1)),()),(()),(()))))) none) (some (.inr (.inr (((),()),(()),(())))))
def DU:=mh CV
def GY[dp] :=FM Tryz.f171 [0] EV CV [MS] [] (by kernel_rfl) λs=>by simp only[CV,tm];kernel_rfl
def Du(a0:List Int)(a1_0:oQ)(a1_1:mt):Option (Int×Unit):=
 (DU ((a0,(a1_0,a1_1,()),(a0.length:Int),0,()),(()),(()))).bind λe8=>Sum.elim (λe8_0=>some e8_0.1) (λ_=>some ((-1),())) e8
def Hu[dp] :=C4 171 Tryz.f171 [.ty (.ls (.i .i64)),.fn 99 VU] HS (λx=>Du x.1 x.2.1.1 x.2.1.2.1) [] [GY] (by kernel_rfl) λx=>by simp only[Du,tm];kernel_rfl
def Db(a0:List Int)(a1_0:oQ)(a1_1:mt):Option (Bool×Unit):=
 (Du a0 a1_0 a1_1).bind λy1=>some ((decide (y1.1≥0)),())
def GQ[dp] :=C4 98 Tryz.f98 [.ty (.ls (.i .i64)),.fn 99 VU] [.b] (λx=>Db x.1 x.2.1.1 x.2.1.2.1) [Hu] [] (by kernel_rfl) λx=>by simp only[Db,tm];kernel_rfl
def Fv(a0:oQ):Option (Bool×Unit):=
 (D3 a0.master).bind λy1=>(Dx a0).bind λy2=>br (!y2.1) ((Dx a0).bind λy3=>some (y3.1,())) (br (!y1.2.1) ((Dx a0).bind λy4=>some (y4.1,())) ((Db y1.1.replicas a0 y1.1).bind λy5=>some (y5.1,())))
def Oj[dp] :=C4 29 Tryz.f29 L5 [.b] (λx=>Fv x.1) [My,Ht,GQ] [] (by kernel_rfl) λx=>by simp only[Fv,tm];kernel_rfl
def F1(a0:oQ):Option (Bool×Unit):=
 (Dx a0).bind λy1=>br y1.1 (br (decide (a0.master.activated>0)) ((Fv a0).bind λy2=>some ((!y2.1),())) (some (false,()))) (some (false,()))
def NX[dp] :=C4 12 Tryz.f12 L5 [.b] (λx=>F1 x.1) [Ht,Oj] [] (by kernel_rfl) λx=>by simp only[F1,tm];kernel_rfl
def JK(a0:oQ):Option (Bool×Unit):=
 some ((decide ((aaV .i64 (2*a0.masterUp))>3)),())
def RR[dp] :=C4 58 Tryz.f58 L5 [.b] (λx=>JK x.1) [] [] (by kernel_rfl) λx=>by simp only[JK,tm];kernel_rfl
def Je(a0:sS):Option (Int×Unit):=
 br ((a0.epoch==0)&&((a0.holder==0)&&((a0.ends==0)&&true))) (some (0,())) ((E0 a0).bind λy1=>br (!y1.1) (some (0,())) (some ((aaV .i64 (a0.ends+3)),())))
def UO[dp] :=C4 135 Tryz.f135 VI HS (λx=>Je x.1) [Pe] [] (by kernel_rfl) λx=>by simp only[Je,tm];kernel_rfl
def EW(a0:sS)(a1:Int):Option (Bool×Unit):=
 (E0 a0).bind λy1=>br y1.1 ((CQ a1 0 999).bind λy2=>br y2.1 ((Je a0).bind λy3=>some ((decide (a1≥y3.1)),())) (some (false,()))) (some (false,()))
def RL[dp] :=C4 59 Tryz.f59 Y3 [.b] (λx=>EW x.1 x.2.1) [Pe,EK,UO] [] (by kernel_rfl) λx=>by simp only[EW,tm];kernel_rfl
def JJ(a0:Op):Option (Bool×Unit):=
 some ((a0.kind==2),())
def RK[dp] :=C4 202 Tryz.f202 Uh [.b] (λx=>JJ x.1) [] [] (by kernel_rfl) λx=>by simp only[JJ,tm];kernel_rfl
def GV(a0:pS):Option (Bool×Unit):=
 (JJ a0.op).bind λy1=>some (y1.1,())
def OL[dp] :=C4 201 Tryz.f201 [.ty (.st .entry)] [.b] (λx=>GV x.1) [RK] [] (by kernel_rfl) λx=>by simp only[GV,tm];kernel_rfl
abbrev E4:LX:=⟨⟨[Kl,(1,.cl (.fc 201)),MT,Nj],[],[],0,19⟩,[(.ret,⟨[Lf],[],[],0,19⟩),(.ext 0,⟨[MH],[],[],0,19⟩)],[],[0,1,7,8],[4]⟩
def CW(s:Zr×Unit×Unit):E4.R:=
 br (decide (s.1.2.2.2.1<s.1.2.2.1)) (iteP (0<=s.1.2.2.2.1) ((s.1.1[s.1.2.2.2.1.toNat]?).bind λx4=>(GV x4).bind λy5=>br y5.1 (some (.inr (.inl (s.1.2.2.2,(()),(()))))) (some (.inl ((s.1.1,(),s.1.2.2.1,(aaV .i64 (s.1.2.2.2.1+1)),()),(()),(()))))) none) (some (.inr (.inr (((),()),(()),(())))))
def D7:=mh CW
def Hv[dp] :=FM Tryz.f229 [0] E4 CW [OL] [] (by kernel_rfl) λs=>by simp only[CW,tm];kernel_rfl
def DC(a0:List pS):Option (Int×Unit):=
 (D7 ((a0,(),(a0.length:Int),0,()),(()),(()))).bind λe6=>Sum.elim (λe6_0=>some e6_0.1) (λ_=>some ((-1),())) e6
def HM[dp] :=C4 229 Tryz.f229 Zd HS (λx=>DC x.1) [] [Hv] (by kernel_rfl) λx=>by simp only[DC,tm];kernel_rfl
def Dp(a0:List pS):Option (Bool×Unit):=
 (DC a0).bind λy1=>some ((decide (y1.1≥0)),())
def Hg[dp] :=C4 200 Tryz.f200 Zd [.b] (λx=>Dp x.1) [HM] [] (by kernel_rfl) λx=>by simp only[Dp,tm];kernel_rfl
def Ge(a0:List pS):Option (Bool×Unit):=
 (Dp a0).bind λy1=>some (y1.1,())
def M9[dp] :=C4 137 Tryz.f137 Ot [.b] (λx=>Ge x.1) [Hg] [] (by kernel_rfl) λx=>by simp only[Ge,tm];kernel_rfl
def Gc(a0:List pS):Option (Bool×Unit):=
 (Ge a0).bind λy1=>some (y1.1,())
def QD[dp] :=C4 61 Tryz.f61 Ot [.b] (λx=>Gc x.1) [M9] [] (by kernel_rfl) λx=>by simp only[Gc,tm];kernel_rfl
def GA(a0:jr)(a1:mt):Option (jr×Bool×Unit):=
 (Gp a0).bind λy1=>(Fe a0).bind λy2=>br (!y2.1) (some (y1.1,false,())) ((EE a1).bind λy3=>br (!y3.1) (some (y1.1,false,())) (br (!(a1.epoch==(aaV .i64 ((a0.configs.length:Int)+1)))) (some (y1.1,false,())) ((D5 a1).bind λy4=>iteP ((y1.1.configs++([y4.1]:List mt)).length*64<=2 ^ 40) (some ((⟨(y1.1.configs++([y4.1]:List mt)),y1.1.activated⟩:jr),true,())) none)))
def P3[dp] :=C4 62 Tryz.f62 Y4 Yu (λx=>GA x.1 x.2.1) [Mq,JL,H2,IY] [] (by kernel_rfl) λx=>by simp only[GA,tm];kernel_rfl
def LK(a0:List pS):Option (Int×(List pS)×Unit):=
 (IG a0).bind λy1=>br (!y1.1) (some (0,([]:List pS),())) (iteP (0<=(if (aaV .i64 ((a0.length:Int)-3))>0 then (aaV .i64 ((a0.length:Int)-3)) else 0)/\(if (aaV .i64 ((a0.length:Int)-3))>0 then (aaV .i64 ((a0.length:Int)-3)) else 0)<=(a0.length:Int)/\(a0.length:Int)<=(a0.length:Int)) ((DI ((a0.drop (if (aaV .i64 ((a0.length:Int)-3))>0 then (aaV .i64 ((a0.length:Int)-3)) else 0).toNat).take ((a0.length:Int).toNat-(if (aaV .i64 ((a0.length:Int)-3))>0 then (aaV .i64 ((a0.length:Int)-3)) else 0).toNat))).bind λy2=>some ((if (aaV .i64 ((a0.length:Int)-3))>0 then (aaV .i64 ((a0.length:Int)-3)) else 0),y2.1,())) none)
def Wo[dp] :=C4 126 Tryz.f126 Ot XC (λx=>LK x.1) [Qq,Hf] [] (by kernel_rfl) λx=>by simp only[LK,tm];kernel_rfl
def Gz(a0:oU)(a1:mt)(a2:Int)(a3:List pS):Option (oU×Bool×Unit):=
 (IH a1 a2).bind λy1=>br (y1.1==0) ((Eu a0).bind λy2=>some (y2.1,false,())) ((IG a3).bind λy3=>br (!y3.1) ((Eu a0).bind λy4=>some (y4.1,false,())) ((CQ a0.version 1 2).bind λy5=>br (!y5.1) ((Eu a0).bind λy6=>some (y6.1,false,())) ((CQ a0.epoch 0 a1.epoch).bind λy7=>br (!y7.1) ((Eu a0).bind λy8=>some (y8.1,false,())) ((G3 a3).bind λy9=>br (decide (y9.1>a1.epoch)) ((Eu a0).bind λy10=>some (y10.1,false,())) (let j18:Option (oU×Bool×Unit):=(D5 a1).bind λy13=>(DI a3).bind λy14=>br (y1.1==3) ((LK a3).bind λy15=>some ((⟨a0.up,true,a0.version,a1.epoch,y13.1,y15.1,y15.2.1,(a3.length:Int),([]:List pS)⟩:oU),true,())) (some ((⟨a0.up,true,a0.version,a1.epoch,y13.1,0,y14.1,(a3.length:Int),([]:List pS)⟩:oU),true,()));br (a0.version==1) ((Ge a3).bind λy11=>br y11.1 ((Eu a0).bind λy12=>some (y12.1,false,())) (j18)) (j18))))))
def P2[dp] :=C4 63 Tryz.f63 Y7 XD (λx=>Gz x.1 x.2.1 x.2.2.1 x.2.2.2.1) [QF,OM,Qq,EK,Na,M9,IY,Hf,Wo] [] (by kernel_rfl) λx=>by simp only[Gz,tm];kernel_rfl
def Ga(a0:jr)(a1:Int):Option (jr×Bool×Unit):=
 (Gp a0).bind λy1=>(Fe a0).bind λy2=>br (!y2.1) (some (y1.1,false,())) (br (!(a1==(a0.configs.length:Int))) (some (y1.1,false,())) (br (decide (a1<=a0.activated)) (some (y1.1,false,())) (some ((⟨y1.1.configs,a1⟩:jr),true,()))))
def Pd[dp] :=C4 64 Tryz.f64 VJ Yu (λx=>Ga x.1 x.2.1) [Mq,JL] [] (by kernel_rfl) λx=>by simp only[Ga,tm];kernel_rfl
def Gy(a0:oQ):Option (oQ×Int×Unit):=
 (HD a0).bind λy1=>(Ec a0).bind λy2=>(F1 a0).bind λy3=>br (!y3.1) (some (y1.1,1,())) (br (decide ((a0.master.configs.length:Int)≥20)) (some (y1.1,1,())) ((JK a0).bind λy4=>br (!y4.1) (some (y1.1,8,())) (br (y2.1==(-1)) (some (y1.1,10,())) ((EW a0.lease a0.now).bind λy5=>br (!y5.1) (some (y1.1,7,())) (iteP (0<=y2.1) ((a0.servers[y2.1.toNat]?).bind λx6=>(E9 x6 y2.1).bind λy7=>iteP (0<=y2.1) ((a0.servers[y2.1.toNat]?).bind λx8=>let j20:Option (oQ×Int×Unit):=(GA y1.1.master (⟨(aaV .i64 ((a0.master.configs.length:Int)+1)),y2.1,([y2.1]:List Int),([]:List Int)⟩:mt)).bind λy10=>iteP (0<=y2.1/\y2.1< (y1.1.servers.length:Int)) ((y1.1.servers[y2.1.toNat]?).bind λx11=>(y1.1.servers[y2.1.toNat]?).bind λx12=>iteP (0+x11.config.replicas.length<=x12.config.replicas.length) ((y1.1.servers[y2.1.toNat]?).bind λx13=>iteP (0+x11.config.witnesses.length<=x13.config.witnesses.length) ((y1.1.servers[y2.1.toNat]?).bind λx14=>iteP (0+x11.log.length<=x14.log.length) ((y1.1.servers[y2.1.toNat]?).bind λx15=>iteP (0+x11.learned.length<=x15.learned.length) ((Gz (⟨x11.up,x11.intact,x11.version,x11.epoch,(⟨x11.config.epoch,x11.config.primary,((x12.config.replicas.drop 0).take x11.config.replicas.length),((x13.config.witnesses.drop 0).take x11.config.witnesses.length)⟩:mt),x11.first,((x14.log.drop 0).take x11.log.length),x11.commit,((x15.learned.drop 0).take x11.learned.length)⟩:oU) (⟨(aaV .i64 ((a0.master.configs.length:Int)+1)),y2.1,([y2.1]:List Int),([]:List Int)⟩:mt) y2.1 y7.1).bind λy16=>iteP (0<=y2.1/\y2.1< (y1.1.servers.length:Int)) ((y1.1.servers[y2.1.toNat]?).bind λ_=>(Ga y10.1 (aaV .i64 ((a0.master.configs.length:Int)+1))).bind λy19=>some ((⟨y1.1.now,(y1.1.servers.set y2.1.toNat y16.1),y1.1.sides,y19.1,y1.1.masterUp,(⟨0,0,0⟩:sS),y1.1.places⟩:oQ),0,())) none) none) none) none) none) none;br (x8.version==1) ((Gc y7.1).bind λy9=>br y9.1 (some (y1.1,6,())) (j20)) (j20)) none) none)))))
def P1[dp] :=C4 9 Tryz.f9 L5 MU (λx=>Gy x.1) [RN,Ln,NX,RR,RL,Mz,QD,P3,P2,Pd] [] (by kernel_rfl) λx=>by simp only[Gy,tm];kernel_rfl
abbrev J7:LX:=⟨⟨[HQ,Nh,N2,LC],[I5,XG],Yz,0,41⟩,[(.ret,⟨[K2,N2],[],[],0,41⟩),(.ext 0,⟨[Nl,N2],[],[],0,41⟩)],[],[1,3,4,5],[2,4]⟩
def DX(s: (Unit×Unit×Bool×Int×Unit)×(L8×Rc×Unit)×List Int×List Int×Unit):J7.R:=
 br (decide (s.1.2.2.2.1< (s.2.2.1.length:Int))) (br s.1.2.2.1 (iteP (0<=s.1.2.2.2.1/\s.1.2.2.2.1< (s.2.2.1.length:Int)) ((s.2.2.1[s.1.2.2.2.1.toNat]?).bind λx19=>iteP (0<=x19) ((s.2.1.1.2.1[x19.toNat]?).bind λx20=>br (x20.config.epoch==s.2.1.2.1.1) (some (.inr (.inl ((true,s.1.2.2.1,()),(()),(()))))) (some (.inl (((),(),s.1.2.2.1,(aaV .i64 (s.1.2.2.2.1+1)),()),s.2)))) none) none) (some (.inr (.inr (((),s.1.2.2.1,()),(()),(())))))) (some (.inr (.inr (((),s.1.2.2.1,()),(()),(())))))
def FV:=mh DX
def Ny[dp] :=FM Tryz.f30 [0] J7 DX [] [] (by kernel_rfl) λs=>by simp only[DX,tm];kernel_rfl
def Fw(a0:oQ):Option (Bool×Unit):=
 (CK a0.master).bind λy1=>(CC a0).bind λy2=>br (!y2.1) (some (false,())) ((FV (((),(),y1.2.1,0,()),((a0.now,a0.servers,a0.sides,a0.master.configs,a0.master.activated,a0.masterUp,a0.lease.epoch,a0.lease.holder,a0.lease.ends,a0.places,()),(y1.1.epoch,y1.1.primary,(),(),()),()),y1.1.replicas,y1.1.witnesses,())).bind λe21=>Sum.elim (λe21_0=>some (e21_0.1.1,())) (λe21_1=>some ((!e21_1.1.2.1),())) e21)
def Om[dp] :=C4 30 Tryz.f30 L5 [.b] (λx=>Fw x.1) [D4,CN] [Ny] (by kernel_rfl) λx=>by simp only[Fw,tm];kernel_rfl
def Fg(a0:oQ):Option (Bool×Unit):=
 (CK a0.master).bind λy1=>(CC a0).bind λy2=>br y2.1 (br y1.2.1 ((Fw a0).bind λy3=>some ((!y3.1),())) (some (false,()))) (some (false,()))
def NZ[dp] :=C4 13 Tryz.f13 L5 [.b] (λx=>Fg x.1) [D4,CN,Om] [] (by kernel_rfl) λx=>by simp only[Fg,tm];kernel_rfl
def Iq(a0:oQ)(a1:Int):Option ((List pS)×Unit):=
 iteP (0<=a1) ((a0.servers[a1.toNat]?).bind λx1=>(Ip x1 a1).bind λy2=>some (y2.1,())) none
def Sw[dp] :=C4 68 Tryz.f68 K1 Tn (λx=>Iq x.1 x.2.1) [Sv] [] (by kernel_rfl) λx=>by simp only[Iq,tm];kernel_rfl
abbrev Kn:LX:=⟨⟨[HQ,K3,(4,.cl (.own 0 (.i .i64))),LC],[I5],GG,0,39⟩,[(.ext 0,⟨[K3],[],[],0,39⟩)],[],[1,3,4,5],[3]⟩
def Eb(s:Xx×(L8×Unit)×List Int×Unit):Kn.R:=
 br (decide (s.1.2.2.2.1< (s.2.2.1.length:Int))) ((CC (⟨s.2.1.1.1,s.2.1.1.2.1,s.2.1.1.2.2.1,(⟨s.2.1.1.2.2.2.1,s.2.1.1.2.2.2.2.1⟩:jr),s.2.1.1.2.2.2.2.2.1,(⟨s.2.1.1.2.2.2.2.2.2.1,s.2.1.1.2.2.2.2.2.2.2.1,s.2.1.1.2.2.2.2.2.2.2.2.1⟩:sS),s.2.1.1.2.2.2.2.2.2.2.2.2.1⟩:oQ)).bind λy15=>br y15.1 (br (decide (s.1.2.1<0)) (iteP (0<=s.1.2.2.2.1/\s.1.2.2.2.1< (s.2.2.1.length:Int)) ((s.2.2.1[s.1.2.2.2.1.toNat]?).bind λx16=>some (.inl (((),x16,(),(aaV .i64 (s.1.2.2.2.1+1)),()),s.2))) none) (iteP (0<=s.1.2.2.2.1/\s.1.2.2.2.1< (s.2.2.1.length:Int)) ((s.2.2.1[s.1.2.2.2.1.toNat]?).bind λx17=>(Iq (⟨s.2.1.1.1,s.2.1.1.2.1,s.2.1.1.2.2.1,(⟨s.2.1.1.2.2.2.1,s.2.1.1.2.2.2.2.1⟩:jr),s.2.1.1.2.2.2.2.2.1,(⟨s.2.1.1.2.2.2.2.2.2.1,s.2.1.1.2.2.2.2.2.2.2.1,s.2.1.1.2.2.2.2.2.2.2.2.1⟩:sS),s.2.1.1.2.2.2.2.2.2.2.2.2.1⟩:oQ) x17).bind λy18=>(Iq (⟨s.2.1.1.1,s.2.1.1.2.1,s.2.1.1.2.2.1,(⟨s.2.1.1.2.2.2.1,s.2.1.1.2.2.2.2.1⟩:jr),s.2.1.1.2.2.2.2.2.1,(⟨s.2.1.1.2.2.2.2.2.2.1,s.2.1.1.2.2.2.2.2.2.2.1,s.2.1.1.2.2.2.2.2.2.2.2.1⟩:sS),s.2.1.1.2.2.2.2.2.2.2.2.2.1⟩:oQ) s.1.2.1).bind λy19=>br (decide ((y18.1.length:Int)>(y19.1.length:Int))) (iteP (0<=s.1.2.2.2.1/\s.1.2.2.2.1< (s.2.2.1.length:Int)) ((s.2.2.1[s.1.2.2.2.1.toNat]?).bind λx20=>some (.inl (((),x20,(),(aaV .i64 (s.1.2.2.2.1+1)),()),s.2))) none) (some (.inl (((),s.1.2.1,(),(aaV .i64 (s.1.2.2.2.1+1)),()),s.2)))) none)) (some (.inr ((s.1.2.1,()),(()),(()))))) (some (.inr ((s.1.2.1,()),(()),(()))))
def Hz:=mh Eb
def NT[dp] :=FM Tryz.f15 [0] Kn Eb [CN,Sw] [] (by kernel_rfl) λs=>by simp only[Eb,tm];kernel_rfl
def Ee(a0:oQ):Option (Int×Unit):=
 (H8 a0).bind λy1=>(Hz (((),(-1),(),0,()),((a0.now,a0.servers,a0.sides,a0.master.configs,a0.master.activated,a0.masterUp,a0.lease.epoch,a0.lease.holder,a0.lease.ends,a0.places,()),()),y1.1,())).bind λe22=>some e22.1
def Lo[dp] :=C4 15 Tryz.f15 L5 HS (λx=>Ee x.1) [QS] [NT] (by kernel_rfl) λx=>by simp only[Ee,tm];kernel_rfl
def Fa(a0:oQ):Option (oQ×Int×Unit):=
 (C7 a0).bind λy1=>(Fg a0).bind λy2=>br (!y2.1) (some (y1.1,1,())) (br ((a0.master.configs.length:Int)==20) (some (y1.1,1,())) ((Ee a0).bind λy3=>br (decide ((aaV .i64 (a0.masterUp*2))<=3)) (some (y1.1,8,())) (br (decide (y3.1<0)) (some (y1.1,10,())) ((Fh a0.lease a0.now).bind λy4=>br (!y4.1) (some (y1.1,7,())) (iteP (0<=y3.1) ((a0.servers[y3.1.toNat]?).bind λx5=>let j15:Option (oQ×Int×Unit):=(Dg a0.master (⟨(aaV .i64 ((a0.master.configs.length:Int)+1)),y3.1,([y3.1]:List Int),([]:List Int)⟩:mt)).bind λy8=>(De y8.1 (aaV .i64 ((a0.master.configs.length:Int)+1))).bind λy9=>iteP (0<=y3.1) ((a0.servers[y3.1.toNat]?).bind λx10=>(Iq a0 y3.1).bind λy11=>(Dw x10 (⟨(aaV .i64 ((a0.master.configs.length:Int)+1)),y3.1,([y3.1]:List Int),([]:List Int)⟩:mt) y3.1 y11.1).bind λy12=>iteP (0<=y3.1/\y3.1< (y1.1.servers.length:Int)) ((y1.1.servers[y3.1.toNat]?).bind λ_=>some ((⟨y1.1.now,(y1.1.servers.set y3.1.toNat y12.1),y1.1.sides,y9.1,y1.1.masterUp,(⟨0,0,0⟩:sS),y1.1.places⟩:oQ),0,())) none) none;br (x5.version==1) ((Iq a0 y3.1).bind λy6=>(Dy y6.1).bind λy7=>br y7.1 (some (y1.1,6,())) (j15)) (j15)) none)))))
def P4[dp] :=C4 10 Tryz.f10 L5 MU (λx=>Fa x.1) [DF,NZ,Lo,Lu,Sw,KU,Kb,Jm,Ka] [] (by kernel_rfl) λx=>by simp only[Fa,tm];kernel_rfl
abbrev Mh:LX:=⟨⟨[Kl,VN,Ni,Xw],[],[],0,26⟩,[(.ret,⟨[N2],[],[],0,26⟩),(.ext 0,⟨[MH],[],[],0,26⟩)],[],[0,1,12,13],[4]⟩
def Fp(s:Zt×Unit×Unit):Mh.R:=
 br (decide (s.1.2.2.2.1<s.1.2.2.1)) (iteP (0<=s.1.2.2.2.1) ((s.1.1[s.1.2.2.2.1.toNat]?).bind λx5=>iteP (0<=s.1.2.2.2.1) ((s.1.2.1[s.1.2.2.2.1.toNat]?).bind λx6=>br (!((x5.epoch==x6.epoch)&&((x5.op.client==x6.op.client)&&((x5.op.seq==x6.op.seq)&&((x5.op.kind==x6.op.kind)&&((x5.op.object==x6.op.object)&&((x5.op.old==x6.op.old)&&((x5.op.value==x6.op.value)&&true)))))))) (some (.inr (.inl ((false,()),(()),(()))))) (some (.inl ((s.1.1,s.1.2.1,s.1.2.2.1,(aaV .i64 (s.1.2.2.2.1+1)),()),(()),(()))))) none) none) (some (.inr (.inr (((),()),(()),(())))))
def Js:=mh Fp
def PC[dp] :=FM Tryz.f152 [0] Mh Fp [] [] (by kernel_rfl) λs=>by simp only[Fp,tm];kernel_rfl
def Gj(a0:List pS)(a1:List pS):Option (Bool×Unit):=
 br (!((a0.length:Int)==(a1.length:Int))) (some (false,())) ((Js ((a0,a1,(a0.length:Int),0,()),(()),(()))).bind λe7=>Sum.elim (λe7_0=>some e7_0.1) (λ_=>some (true,())) e7)
def QV[dp] :=C4 152 Tryz.f152 Y6 [.b] (λx=>Gj x.1 x.2.1) [] [PC] (by kernel_rfl) λx=>by simp only[Gj,tm];kernel_rfl
def Fb(a0:oU)(a1:oU):Option (Bool×Unit):=
 br (a0.up==a1.up) (br (a0.intact==a1.intact) (br (a0.version==a1.version) (br (a0.epoch==a1.epoch) ((Eh a0.config a1.config).bind λy1=>br y1.1 (br (a0.first==a1.first) ((Gj a0.log a1.log).bind λy2=>br y2.1 (br (a0.commit==a1.commit) ((Gj a0.learned a1.learned).bind λy3=>some (y3.1,())) (some (false,()))) (some (false,()))) (some (false,()))) (some (false,()))) (some (false,()))) (some (false,()))) (some (false,()))) (some (false,()))
def NL[dp] :=C4 73 Tryz.f73 [.ty (.st .server),.ty (.st .server)] [.b] (λx=>Fb x.1 x.2.1) [Ha,QV] [] (by kernel_rfl) λx=>by simp only[Fb,tm];kernel_rfl
abbrev EL:LX:=⟨⟨[(1,.cl (.ro (.st .server))),(2,.cl (.fc 73)),(15,.cl (.ro (.st .server))),(16,.cl (.int .i64)),(17,.cl (.int .i64))],[],[],0,32⟩,[(.ret,⟨[(6,.cl (.bl))],[],[],0,32⟩),(.ext 0,⟨[Xq],[],[],0,32⟩)],[],[1,2,15,16,17],[6]⟩
def Da(s: (List oU×Unit×List oU×Int×Int×Unit)×Unit×Unit):EL.R:=
 br (decide (s.1.2.2.2.2.1<s.1.2.2.2.1)) (iteP (0<=s.1.2.2.2.2.1) ((s.1.2.2.1[s.1.2.2.2.2.1.toNat]?).bind λx5=>iteP (0<=s.1.2.2.2.2.1) ((s.1.1[s.1.2.2.2.2.1.toNat]?).bind λx6=>(Fb x5 x6).bind λy7=>br (!y7.1) (some (.inr (.inl ((false,()),(()),(()))))) (some (.inl ((s.1.1,(),s.1.2.2.1,s.1.2.2.2.1,(aaV .i64 (s.1.2.2.2.2.1+1)),()),(()),(()))))) none) none) (some (.inr (.inr (((),()),(()),(())))))
def GR:=mh Da
def GS[dp] :=FM Tryz.f72 [0] EL Da [NL] [] (by kernel_rfl) λs=>by simp only[Da,tm];kernel_rfl
def Dr(a0:List oU)(a1:List oU):Option (Bool×Unit):=
 br (!((a0.length:Int)==(a1.length:Int))) (some (false,())) ((GR ((a1,(),a0,(a0.length:Int),0,()),(()),(()))).bind λe8=>Sum.elim (λe8_0=>some e8_0.1) (λ_=>some (true,())) e8)
def Hi[dp] :=C4 72 Tryz.f72 [.ty (.ls (.st .server)),.ty (.ls (.st .server)),.fc 73] [.b] (λx=>Dr x.1 x.2.1) [] [GS] (by kernel_rfl) λx=>by simp only[Dr,tm];kernel_rfl
abbrev Fj:LX:=⟨⟨[(1,.cl (.ro (.st .config))),(2,.cl (.fc 151)),(15,.cl (.ro (.st .config))),(16,.cl (.int .i64)),(17,.cl (.int .i64))],[],[],0,32⟩,[(.ret,⟨[(6,.cl (.bl))],[],[],0,32⟩),(.ext 0,⟨[Xq],[],[],0,32⟩)],[],[1,2,15,16,17],[6]⟩
def DA(s: (List mt×Unit×List mt×Int×Int×Unit)×Unit×Unit):Fj.R:=
 br (decide (s.1.2.2.2.2.1<s.1.2.2.2.1)) (iteP (0<=s.1.2.2.2.2.1) ((s.1.2.2.1[s.1.2.2.2.2.1.toNat]?).bind λx5=>iteP (0<=s.1.2.2.2.2.1) ((s.1.1[s.1.2.2.2.2.1.toNat]?).bind λx6=>(Eh x5 x6).bind λy7=>br (!y7.1) (some (.inr (.inl ((false,()),(()),(()))))) (some (.inl ((s.1.1,(),s.1.2.2.1,s.1.2.2.2.1,(aaV .i64 (s.1.2.2.2.2.1+1)),()),(()),(()))))) none) none) (some (.inr (.inr (((),()),(()),(())))))
def HP:=mh DA
def HT[dp] :=FM Tryz.f153 [0] Fj DA [Ha] [] (by kernel_rfl) λs=>by simp only[DA,tm];kernel_rfl
def DJ(a0:List mt)(a1:List mt):Option (Bool×Unit):=
 br (!((a0.length:Int)==(a1.length:Int))) (some (false,())) ((HP ((a1,(),a0,(a0.length:Int),0,()),(()),(()))).bind λe8=>Sum.elim (λe8_0=>some e8_0.1) (λ_=>some (true,())) e8)
def It[dp] :=C4 153 Tryz.f153 [.ty (.ls (.st .config)),.ty (.ls (.st .config)),.fc 151] [.b] (λx=>DJ x.1 x.2.1) [] [HT] (by kernel_rfl) λx=>by simp only[DJ,tm];kernel_rfl
def FP(a0:jr)(a1:jr):Option (Bool×Unit):=
 br (a0.activated==a1.activated) ((DJ a0.configs a1.configs).bind λy1=>some (y1.1,())) (some (false,()))
def OK[dp] :=C4 75 Tryz.f75 [.ty (.st .masterLog),.ty (.st .masterLog)] [.b] (λx=>FP x.1 x.2.1) [It] [] (by kernel_rfl) λx=>by simp only[FP,tm];kernel_rfl
abbrev Mi:LX:=⟨⟨[PP,(1,.cl (.ro (.st .place))),Ni,Xw],[],[],0,26⟩,[(.ret,⟨[N2],[],[],0,26⟩),(.ext 0,⟨[MH],[],[],0,26⟩)],[],[0,1,12,13],[4]⟩
def Hp(s: (List sV×List sV×Int×Int×Unit)×Unit×Unit):Mi.R:=
 br (decide (s.1.2.2.2.1<s.1.2.2.1)) (iteP (0<=s.1.2.2.2.1) ((s.1.1[s.1.2.2.2.1.toNat]?).bind λx5=>iteP (0<=s.1.2.2.2.1) ((s.1.2.1[s.1.2.2.2.1.toNat]?).bind λx6=>br (!((x5.rack==x6.rack)&&((x5.capacity==x6.capacity)&&((x5.load==x6.load)&&true)))) (some (.inr (.inl ((false,()),(()),(()))))) (some (.inl ((s.1.1,s.1.2.1,s.1.2.2.1,(aaV .i64 (s.1.2.2.2.1+1)),()),(()),(()))))) none) none) (some (.inr (.inr (((),()),(()),(())))))
def Pr:=mh Hp
def PD[dp] :=FM Tryz.f76 [0] Mi Hp [] [] (by kernel_rfl) λs=>by simp only[Hp,tm];kernel_rfl
def G8(a0:List sV)(a1:List sV):Option (Bool×Unit):=
 br (!((a0.length:Int)==(a1.length:Int))) (some (false,())) ((Pr ((a0,a1,(a0.length:Int),0,()),(()),(()))).bind λe7=>Sum.elim (λe7_0=>some e7_0.1) (λ_=>some (true,())) e7)
def QW[dp] :=C4 76 Tryz.f76 [.ty (.ls (.st .place)),.ty (.ls (.st .place))] [.b] (λx=>G8 x.1 x.2.1) [] [PD] (by kernel_rfl) λx=>by simp only[G8,tm];kernel_rfl
def Gx(a0:oQ)(a1:oQ):Option (Bool×Unit):=
 br (a0.now==a1.now) ((Dr a0.servers a1.servers).bind λy1=>br y1.1 ((Gu a0.sides a1.sides).bind λy2=>br y2.1 ((FP a0.master a1.master).bind λy3=>br y3.1 (br (a0.masterUp==a1.masterUp) (br ((a0.lease.epoch==a1.lease.epoch)&&((a0.lease.holder==a1.lease.holder)&&((a0.lease.ends==a1.lease.ends)&&true))) ((G8 a0.places a1.places).bind λy4=>some (y4.1,())) (some (false,()))) (some (false,()))) (some (false,()))) (some (false,()))) (some (false,()))) (some (false,()))
def P0[dp] :=C4 11 Tryz.f11 [.ty (.st .cluster),.ty (.st .cluster)] [.b] (λx=>Gx x.1 x.2.1) [Hi,OX,OK,QW] [] (by kernel_rfl) λx=>by simp only[Gx,tm];kernel_rfl
def Er(a0:oQ)(a1:Int):Option (Bool×Unit):=
 (Dx a0).bind λy1=>br y1.1 ((CQ a1 0 4).bind λy2=>some (y2.1,())) (some (false,()))
def RP[dp] :=C4 92 Tryz.f92 K1 [.b] (λx=>Er x.1 x.2.1) [Ht,EK] [] (by kernel_rfl) λx=>by simp only[Er,tm];kernel_rfl
def G1(a0:oU)(a1:Int):Option (Bool×Unit):=
 (FI a0 a1).bind λy1=>br y1.1 (br a0.up ((IH a0.config a1).bind λy2=>br (y2.1==1) (some ((a0.epoch==a0.config.epoch),())) (some (false,()))) (some (false,()))) (some (false,()))
def QE[dp] :=C4 177 Tryz.f177 Tm [.b] (λx=>G1 x.1 x.2.1) [Mx,QF] [] (by kernel_rfl) λx=>by simp only[G1,tm];kernel_rfl
def Ei(a0:oQ)(a1:Int):Option (Bool×Unit):=
 (Er a0 a1).bind λy1=>br y1.1 (iteP (0<=a1) ((a0.servers[a1.toNat]?).bind λx2=>(G1 x2 a1).bind λy3=>some (y3.1,())) none) (some (false,()))
def RQ[dp] :=C4 106 Tryz.f106 K1 [.b] (λx=>Ei x.1 x.2.1) [RP,QE] [] (by kernel_rfl) λx=>by simp only[Ei,tm];kernel_rfl
def G9(a1:Int):Option ((List Int)×Unit):=
 br (decide (a1<0)) (none) (br (decide ((aaV .i64 (a1-(aaV .i64 (0-0))))>0)) (iteP ((0:Int)=0/\(0:Int)=0) (iteP (0< (aaV .i64 (a1-(aaV .i64 (0-0))))/\(aaV .i64 (a1-(aaV .i64 (0-0))))*((8:Nat):Int)<=2 ^ 40) (iteP (0<=(0:Int)/\(0:Int)<=(0:Int)/\(0:Int)<=(((aaV .i64 (a1-(aaV .i64 (0-0)))).toNat:Nat):Int)) (iteP ((0+(0:Int).toNat)=0/\((0:Int).toNat-(0:Int).toNat)<=(List.replicate (aaV .i64 (a1-(aaV .i64 (0-0)))).toNat (0:Int)).length) (some (((List.replicate (aaV .i64 (a1-(aaV .i64 (0-0)))).toNat (0:Int)).take ((0:Int).toNat-(0:Int).toNat)),())) (iteP ((0+(0:Int).toNat)+((0:Int).toNat-(0:Int).toNat)<=(List.replicate (aaV .i64 (a1-(aaV .i64 (0-0)))).toNat (0:Int)).length) (some ((((List.replicate (aaV .i64 (a1-(aaV .i64 (0-0)))).toNat (0:Int)).drop (0+(0:Int).toNat)).take ((0:Int).toNat-(0:Int).toNat)),())) none)) none) none) none) (some (([]:List Int),())))
def QX[dp] :=C4 228 Tryz.f228 [.nl,.ty (.i .i64)] Jt (λx=>G9 x.2.1) [] [] (by kernel_rfl) λx=>by simp only[G9,tm,-eq_self];kernel_rfl
abbrev MR:LX:=⟨⟨[(0,.cl (.ro (.ls (.i .i64)))),K3,(9,.cl (.ro (.ls (.i .i64)))),Q8,SE],[],[],0,36⟩,[(.ext 0,⟨[(0,.cl (.ro (.ls (.i .i64)))),K3],[],[],0,36⟩)],[],[0,3,9,10,11],[0,3]⟩
def FH(s: (List (List Int)×Int×List (List Int)×Int×Int×Unit)×Unit×Unit):MR.R:=
 br (decide (s.1.2.2.2.2.1<s.1.2.2.2.1)) (iteP (0<=s.1.2.2.2.2.1) ((s.1.2.2.1[s.1.2.2.2.2.1.toNat]?).bind λx6=>br (decide ((aaV .i64 (s.1.2.1+(x6.length:Int)))<0)) (none) (some (.inl ((s.1.1,(aaV .i64 (s.1.2.1+(x6.length:Int))),s.1.2.2.1,s.1.2.2.2.1,(aaV .i64 (s.1.2.2.2.2.1+1)),()),(()),(()))))) none) (some (.inr ((s.1.1,s.1.2.1,()),(()),(()))))
def MG:=mh FH
def Qm[dp] :=FM Tryz.f196 [0] MR FH [] [] (by kernel_rfl) λs=>by simp only[FH,tm];kernel_rfl
abbrev Mg:LX:=⟨⟨[VK,(25,.cl (.ro (.ls (.i .i64)))),(26,.cl (.int .i64)),(27,.cl (.int .i64))],[],GG,0,36⟩,[(.ext 2,⟨[VK],[],GG,0,36⟩)],[],[6,25,26,27],[6]⟩
def Fo(s: (Unit×List (List Int)×Int×Int×Unit)×Unit×List Int×Unit):Mg.R:=
 br (decide (s.1.2.2.2.1<s.1.2.2.1)) (iteP (0<=s.1.2.2.2.1) ((s.1.2.1[s.1.2.2.2.1.toNat]?).bind λx13=>iteP ((s.2.2.1++x13).length*8<=2 ^ 40) (some (.inl (((),s.1.2.1,s.1.2.2.1,(aaV .i64 (s.1.2.2.2.1+1)),()),(()),(s.2.2.1++x13),()))) none) none) (some (.inr (((),()),(()),s.2.2)))
def L4:=mh Fo
def PB[dp] :=FM Tryz.f196 [1] Mg Fo [] [] (by kernel_rfl) λs=>by simp only[Fo,tm];kernel_rfl
def HK(a0:List (List Int)):Option ((List Int)×Unit):=
 (MG ((a0,0,a0,(a0.length:Int),0,()),(()),(()))).bind λe7=>(G9 e7.1.2.1).bind λy8=>(L4 (((),e7.1.1,(e7.1.1.length:Int),0,()),(()),y8.1,())).bind λe14=>some e14.2.2
def R1[dp] :=C4 196 Tryz.f196 [.ty (.ls (.ls (.i .i64)))] Jt (λx=>HK x.1) [QX] [Qm,PB] (by kernel_rfl) λx=>by simp only[HK,tm];kernel_rfl
def G2(a0:List Int)(a1:List Int):Option ((List Int)×Unit):=
 (HK ([a0,a1]:List (List Int))).bind λy1=>(Gl y1.1).bind λy2=>some (y2.1,())
def QG[dp] :=C4 122 Tryz.f122 Tl Jt (λx=>G2 x.1 x.2.1) [R1,PG] [] (by kernel_rfl) λx=>by simp only[G2,tm];kernel_rfl
def JQ(a0:mt):Option ((List Int)×Unit):=
 (EE a0).bind λy1=>br (!y1.1) (some (([]:List Int),())) ((G2 a0.replicas a0.witnesses).bind λy2=>some (y2.1,()))
def TX[dp] :=C4 51 Tryz.f51 Va Jt (λx=>JQ x.1) [H2,QG] [] (by kernel_rfl) λx=>by simp only[JQ,tm];kernel_rfl
def KI(a0:List Int)(a1:Int)(a2:Int):Option (Bool×Unit):=
 (H5 a0).bind λy1=>br y1.1 ((CQ a1 0 4).bind λy2=>br y2.1 ((CQ a2 0 4).bind λy3=>br y3.1 (iteP (0<=a1) ((a0[a1.toNat]?).bind λx4=>iteP (0<=a2) ((a0[a2.toNat]?).bind λx5=>some ((x4==x5),())) none) none) (some (false,()))) (some (false,()))) (some (false,()))
def UP[dp] :=C4 100 Tryz.f100 Xo [.b] (λx=>KI x.1 x.2.1 x.2.2.1) [QA,EK] [] (by kernel_rfl) λx=>by simp only[KI,tm];kernel_rfl
def OH(a0:oQ)(a1:Int)(a2:Int):Option (Bool×Unit):=
 iteP (0<=a1) ((a0.servers[a1.toNat]?).bind λx1=>iteP (0<=a2) ((a0.servers[a2.toNat]?).bind λx2=>(KI a0.sides a1 a2).bind λy3=>br y3.1 (br x2.up (br (x2.epoch==x1.epoch) ((Eh x2.config x1.config).bind λy4=>br y4.1 (some ((decide (x2.commit<=(x1.log.length:Int))),())) (some (false,()))) (some (false,()))) (some (false,()))) (some (false,()))) none) none
def Yj[dp] :=C4 124 Tryz.f124 Q6 [.b] (λx=>OH x.1 x.2.1 x.2.2.1) [UP,Ha] [] (by kernel_rfl) λx=>by simp only[OH,tm];kernel_rfl
def F6(a0:Int)(a1:oQ)(a2:mt):Option (Bool×Unit):=
 (OH a1 a2.primary a0).bind λy1=>some ((!y1.1),())
def NM[dp] :=C4 167 Tryz.f167 Zc [.b] (λx=>F6 x.1 x.2.1 x.2.2.1) [Yj] [] (by kernel_rfl) λx=>by simp only[F6,tm];kernel_rfl
abbrev E5:LX:=⟨⟨[Mv,(1,.fn 167 ZC),MT,Nj],[],[],0,19⟩,[(.ret,⟨[Lf],[],[],0,19⟩),(.ext 0,⟨[MH],[],[],0,19⟩)],[],[0,1,7,8],[4]⟩
def CX(s: (List Int×Zu×Int×Int×Unit)×Unit×Unit):E5.R:=
 br (decide (s.1.2.2.2.1<s.1.2.2.1)) (iteP (0<=s.1.2.2.2.1) ((s.1.1[s.1.2.2.2.1.toNat]?).bind λx6=>(F6 x6 s.1.2.1.1 s.1.2.1.2.1).bind λy7=>br y7.1 (some (.inr (.inl (s.1.2.2.2,(()),(()))))) (some (.inl ((s.1.1,s.1.2.1,s.1.2.2.1,(aaV .i64 (s.1.2.2.2.1+1)),()),(()),(()))))) none) (some (.inr (.inr (((),()),(()),(())))))
def D8:=mh CX
def Hw[dp] :=FM Tryz.f171 [0] E5 CX [NM] [] (by kernel_rfl) λs=>by simp only[CX,tm];kernel_rfl
def DD(a0:List Int)(a1_0:oQ)(a1_1:mt):Option (Int×Unit):=
 (D8 ((a0,(a1_0,a1_1,()),(a0.length:Int),0,()),(()),(()))).bind λe8=>Sum.elim (λe8_0=>some e8_0.1) (λ_=>some ((-1),())) e8
def HN[dp] :=C4 171 Tryz.f171 [.ty (.ls (.i .i64)),.fn 167 VU] HS (λx=>DD x.1 x.2.1.1 x.2.1.2.1) [] [Hw] (by kernel_rfl) λx=>by simp only[DD,tm];kernel_rfl
def Dq(a0:List Int)(a1_0:oQ)(a1_1:mt):Option (Bool×Unit):=
 (DD a0 a1_0 a1_1).bind λy1=>some ((decide (y1.1≥0)),())
def Hh[dp] :=C4 98 Tryz.f98 [.ty (.ls (.i .i64)),.fn 167 VU] [.b] (λx=>Dq x.1 x.2.1.1 x.2.1.2.1) [HN] [] (by kernel_rfl) λx=>by simp only[Dq,tm];kernel_rfl
def Gd(a0:oQ):Option (Int×Unit):=
 (D3 a0.master).bind λy1=>br (!y1.2.1) (some ((-1),())) ((Ei a0 y1.1.primary).bind λy2=>br (!y2.1) (some ((-1),())) (iteP (0<=y1.1.primary) ((a0.servers[y1.1.primary.toNat]?).bind λx3=>br (!(x3.config.epoch==y1.1.epoch)) (some ((-1),())) ((JQ y1.1).bind λy4=>(Dq y4.1 a0 y1.1).bind λy5=>br y5.1 (some ((-1),())) (some (y1.1.primary,())))) none))
def Pg[dp] :=C4 82 Tryz.f82 L5 HS (λx=>Gd x.1) [My,RQ,TX,Hh] [] (by kernel_rfl) λx=>by simp only[Gd,tm];kernel_rfl
def JP(a0:oQ):Option (Bool×Unit):=
 (Gd a0).bind λy1=>some ((!(y1.1==(-1))),())
def TV[dp] :=C4 16 Tryz.f16 L5 [.b] (λx=>JP x.1) [Pg] [] (by kernel_rfl) λx=>by simp only[JP,tm];kernel_rfl
abbrev Km:LX:=⟨⟨[(4,.cl (.pt 0 3)),Zj,Zk,MT],[],ZH,0,55⟩,[(.ext 0,⟨[(4,.cl (.pt 0 3)),Zj,Zk],[],ZH,0,55⟩)],[],[4,5,6,7],[4,5,6]⟩
def F5[dp](s:XA×Unit×List oS×List pS×List Bh×Unit):Km.R:=
 br (decide (s.1.2.2.2.1< (s.2.2.2.1.length:Int))) ((DN s.2.2.1 2).bind λy7=>iteP (y7.1.length=s.2.2.1.length) (br y7.2.1 (iteP (0<=s.1.2.2.2.1/\s.1.2.2.2.1< (s.2.2.2.1.length:Int)) ((s.2.2.2.1[s.1.2.2.2.1.toNat]?).bind λx8=>iteP ((s.2.2.2.2.1++([(⟨x8.op,s.1.2.2.2.1⟩:Bh)]:List Bh)).length*56<=2 ^ 40) (some (.inl (((),(),(),(aaV .i64 (s.1.2.2.2.1+1)),()),(()),y7.1,s.2.2.2.1,(s.2.2.2.2.1++([(⟨x8.op,s.1.2.2.2.1⟩:Bh)]:List Bh)),()))) none) none) (some (.inl (((),(),(),(aaV .i64 (s.1.2.2.2.1+1)),()),(()),y7.1,s.2.2.2)))) none) (some (.inr (((),(),(),()),(()),s.2.2)))
def NP[dp] :=mh F5
def NS[dp] :=FM Tryz.f17 [0] Km F5 [FU] [] (by kernel_rfl) λs=>by simp only[F5,tm,-eq_self];kernel_rfl
def E3[dp](a0:Hd):Option ((List Bh)×(List pS)×Unit):=
 (Qo a0).bind λy1=>(NF y1.1).bind λy2=>iteP (y2.1.length=y1.1.length) ((NP (((),(),(),0,()),(()),y2.1,y2.2.1,([]:List Bh),())).bind λe10=>(DN e10.2.2.1 3).bind λy11=>iteP (y11.1.length=e10.2.2.1.length) (let j18 (p14:List oS) (p15:List Bh):Option ((List Bh)×(List pS)×Unit):=(CF p14 (aaV .i64 ((e10.2.2.2.1.length:Int)+1))).bind λy16=>iteP (y16.1.length=p14.length) (iteP (0<=(0:Int)/\(0:Int)<=(aaV .i64 ((e10.2.2.2.1.length:Int)-(aaV .i64 (Int.tdiv y16.2.1 2))))/\(aaV .i64 ((e10.2.2.2.1.length:Int)-(aaV .i64 (Int.tdiv y16.2.1 2))))<=((e10.2.2.2.1.length:Nat):Int)) (iteP ((0+(0:Int).toNat)+((aaV .i64 ((e10.2.2.2.1.length:Int)-(aaV .i64 (Int.tdiv y16.2.1 2)))).toNat-(0:Int).toNat)<=e10.2.2.2.1.length) ((DP ((e10.2.2.2.1.drop (0+(0:Int).toNat)).take ((aaV .i64 ((e10.2.2.2.1.length:Int)-(aaV .i64 (Int.tdiv y16.2.1 2)))).toNat-(0:Int).toNat))).bind λy17=>some (p15,y17.1,())) none) none) none;br y11.2.1 ((NE y11.1).bind λy12=>iteP (y12.1.length=y11.1.length) ((CS y12.1 ([(-1),0,1,17]:List Int)).bind λy13=>iteP (y13.1.length=y12.1.length) (iteP ((e10.2.2.2.2.1++([(⟨y12.2.1,y13.2.1⟩:Bh)]:List Bh)).length*56<=2 ^ 40) (j18 y13.1 (e10.2.2.2.2.1++([(⟨y12.2.1,y13.2.1⟩:Bh)]:List Bh))) none) none) none) (j18 y11.1 e10.2.2.2.2.1)) none) none
def OQ[dp] :=C4 17 Tryz.f17 [.ty (.h)] [.ls (.st .ack),.ls (.st .entry)] (λx=>E3 x.1) [VB,VE,FU,VD,D0,DV,He] [NS] (by kernel_rfl) λx=>by simp only[E3,tm,-eq_self];kernel_rfl
abbrev ML:LX:=⟨⟨[VN,VT,(9,.cl (.ro (.st .ack))),Q8,SE],[],[.st .ack],0,39⟩,[(.ext 0,⟨[VT],[],[.st .ack],0,39⟩)],[],[1,5,9,10,11],[5]⟩
def FE(s: (List pS×Unit×List Bh×Int×Int×Unit)×Unit×List Bh×Unit):ML.R:=
 br (decide (s.1.2.2.2.2.1<s.1.2.2.2.1)) (iteP (0<=s.1.2.2.2.2.1) ((s.1.2.2.1[s.1.2.2.2.2.1.toNat]?).bind λx6=>(CQ x6.index 0 (aaV .i64 ((s.1.1.length:Int)-1))).bind λy7=>br (!y7.1) (iteP ((s.2.2.1++([x6]:List Bh)).length*56<=2 ^ 40) (some (.inl ((s.1.1,(),s.1.2.2.1,s.1.2.2.2.1,(aaV .i64 (s.1.2.2.2.2.1+1)),()),(()),(s.2.2.1++([x6]:List Bh)),()))) none) (iteP (0<=x6.index) ((s.1.1[x6.index.toNat]?).bind λx8=>br (!((x8.op.client==x6.op.client)&&((x8.op.seq==x6.op.seq)&&((x8.op.kind==x6.op.kind)&&((x8.op.object==x6.op.object)&&((x8.op.old==x6.op.old)&&((x8.op.value==x6.op.value)&&true))))))) (iteP ((s.2.2.1++([x6]:List Bh)).length*56<=2 ^ 40) (some (.inl ((s.1.1,(),s.1.2.2.1,s.1.2.2.2.1,(aaV .i64 (s.1.2.2.2.2.1+1)),()),(()),(s.2.2.1++([x6]:List Bh)),()))) none) (some (.inl ((s.1.1,(),s.1.2.2.1,s.1.2.2.2.1,(aaV .i64 (s.1.2.2.2.2.1+1)),()),(()),s.2.2)))) none)) none) (some (.inr (((),()),(()),s.2.2)))
def MC:=mh FE
def Qe[dp] :=FM Tryz.f18 [0] ML FE [EK] [] (by kernel_rfl) λs=>by simp only[FE,tm];kernel_rfl
def GK(a0:List Bh)(a1:List pS):Option ((List Bh)×Unit):=
 (MC ((a1,(),a0,(a0.length:Int),0,()),(()),([]:List Bh),())).bind λe10=>some e10.2.2
def RM[dp] :=C4 18 Tryz.f18 Ze [.ls (.st .ack)] (λx=>GK x.1 x.2.1) [] [Qe] (by kernel_rfl) λx=>by simp only[GK,tm];kernel_rfl
abbrev MP:LX:=⟨⟨[(0,.cl (.ro (.st .ack))),VN,VT,NQ],[],[.st .ack],0,47⟩,[(.ext 0,⟨[VT],[],[.st .ack],0,47⟩)],[],[0,1,5,6],[5]⟩
def FG(s: (List Bh×List pS×Unit×Int×Unit)×Unit×List Bh×Unit):MP.R:=
 br (decide (s.1.2.2.2.1< (s.1.1.length:Int))) (iteP (0<=s.1.2.2.2.1) ((s.1.1[s.1.2.2.2.1.toNat]?).bind λx5=>(CM x5.index 0 (aaV .i64 ((s.1.2.1.length:Int)-1))).bind λy6=>br (!y6.1) (iteP (0<=s.1.2.2.2.1) ((s.1.1[s.1.2.2.2.1.toNat]?).bind λx7=>iteP ((s.2.2.1++([x7]:List Bh)).length*56<=2 ^ 40) (some (.inl ((s.1.1,s.1.2.1,(),(aaV .i64 (s.1.2.2.2.1+1)),()),(()),(s.2.2.1++([x7]:List Bh)),()))) none) none) (iteP (0<=x5.index) ((s.1.2.1[x5.index.toNat]?).bind λx8=>iteP (0<=s.1.2.2.2.1) ((s.1.1[s.1.2.2.2.1.toNat]?).bind λx9=>br (!((x8.op.client==x9.op.client)&&((x8.op.seq==x9.op.seq)&&((x8.op.kind==x9.op.kind)&&((x8.op.object==x9.op.object)&&((x8.op.old==x9.op.old)&&((x8.op.value==x9.op.value)&&true))))))) (iteP (0<=s.1.2.2.2.1) ((s.1.1[s.1.2.2.2.1.toNat]?).bind λx10=>iteP ((s.2.2.1++([x10]:List Bh)).length*56<=2 ^ 40) (some (.inl ((s.1.1,s.1.2.1,(),(aaV .i64 (s.1.2.2.2.1+1)),()),(()),(s.2.2.1++([x10]:List Bh)),()))) none) none) (some (.inl ((s.1.1,s.1.2.1,(),(aaV .i64 (s.1.2.2.2.1+1)),()),(()),s.2.2)))) none) none)) none) (some (.inr (((),()),(()),s.2.2)))
def ME:=mh FG
def Qi[dp] :=FM Tryz.f19 [0] MP FG [Ds] [] (by kernel_rfl) λs=>by simp only[FG,tm];kernel_rfl
def GL(a0:List Bh)(a1:List pS):Option ((List Bh)×Unit):=
 (ME ((a0,a1,(),0,()),(()),([]:List Bh),())).bind λe12=>some e12.2.2
def RX[dp] :=C4 19 Tryz.f19 Ze [.ls (.st .ack)] (λx=>GL x.1 x.2.1) [] [Qi] (by kernel_rfl) λx=>by simp only[GL,tm];kernel_rfl
end
end Go.Proofs.YtkghndikalnipabGreat.En
