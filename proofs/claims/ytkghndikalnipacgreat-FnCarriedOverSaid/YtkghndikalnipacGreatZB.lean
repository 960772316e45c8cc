/- Printed by a program: the walk. -/
import Derived.Test.YtkghndikalnipacGreatZTh
set_option linter.unusedSimpArgs false
set_option linter.unusedVariables false
namespace Go.Proofs.YtkghndikalnipacGreat.En
open Go
abbrev DG:=@Int.toNat_natCast
abbrev DH:=@Int.natCast_nonneg
abbrev DI:=@Int.ofNat_lt
abbrev DJ:=@List.getElem_mem
abbrev DK:=@List.getElem?_set_self
abbrev DL:=@List.length_set
abbrev DM:=@Int.lt_irrefl
abbrev DN:=@List.getElem?_set_ne
abbrev DP:=@List.take_length
abbrev DQ:=@List.pairwise_iff_getElem
abbrev DR:=@List.take_add_one
abbrev DS:=@List.pairwise_cons
abbrev DT:=@Int.toNat_of_nonneg
abbrev DU:=@Sum.elim_inl
abbrev DV:=@Nat.not_lt_zero
abbrev DW:=@List.filter_append
abbrev DX:=@Nat.le_succ_of_le
abbrev DY:=@List.pairwise_append
abbrev DZ:=@Sum.elim_inr
abbrev D0:=@Nat.sub_zero
abbrev D3:=@List.flatten_append
abbrev D4:=@List.getElem_take
abbrev D5:=@List.pairwise_singleton
abbrev D6:=@List.mem_filter
abbrev D7:=@Int.toNat_zero
abbrev D8:=@List.length_filter_le
abbrev D9:=@Nat.le_of_eq
abbrev Ea:=@List.getElem?_concat_length
abbrev Eb:=@List.eq_of_mem_replicate
abbrev Ec:=@List.getElem_set
abbrev Ed:=@Bool.false_and
noncomputable section
abbrev JR:List Ty:=[.i .i64]
abbrev L7:List Ty:=[.ls (.i .i64)]
abbrev OC:List Ty:=[.st .cluster,.i .i64]
abbrev UG:List Ty:=[.st .cluster]
abbrev Wm:List Ty:=[.ls (.st .entry)]
abbrev Wn:List Ty:=[.st .config,.b]
abbrev Xw:List Ty:=[.ls (.st .entry),.b]
abbrev Zt:List Ty:=[.st .server]
abbrev Zu:List Ty:=[.st .server,.b]
abbrev aa4:List Ty:=[.i .i64,.ls (.st .entry)]
abbrev Yr:List Ty:=[.st .masterLog,.b]
abbrev aat:List Ty:=[.st .cluster,.ls (.st .event)]
abbrev aau:List Ty:=[.st .cluster,.st .reply]
abbrev LD:List jZ:=[.ty (.st .cluster),.ty (.i .i64)]
abbrev P6:List jZ:=[.ty (.ls (.st .entry))]
abbrev Sd:List jZ:=[.ty (.st .cluster)]
abbrev Se:List jZ:=[.ty (.st .cluster),.ty (.i .i64),.ty (.i .i64)]
abbrev UD:List jZ:=[.ty (.ls (.i .i64)),.ty (.ls (.i .i64))]
abbrev UE:List jZ:=[.ty (.st .server),.ty (.i .i64)]
abbrev Vo:List jZ:=[.ty (.i .i64)]
abbrev Vp:List jZ:=[.ty (.st .masterLog)]
abbrev Wk:List jZ:=[.ty (.ls (.i .i64))]
abbrev Wl:List jZ:=[.ty (.st .config)]
abbrev TJ:List jZ:=[.ty (.st .server)]
abbrev Vm:List jZ:=[.ty (.ls (.i .i64)),.ty (.i .i64)]
abbrev Vn:List jZ:=[.ty (.st .op)]
abbrev WM:List jZ:=[.ty (.st .lease)]
abbrev WN:List jZ:=[.ty (.st .masterLog),.ty (.i .i64)]
abbrev WO:List jZ:=[.ty (.ls (.st .entry)),.ty (.ls (.st .entry))]
abbrev Yb:List jZ:=[.ty (.i .i64),.ty (.i .i64),.ty (.i .i64)]
abbrev Yc:List jZ:=[.ty (.ls (.st .place))]
abbrev Yd:List jZ:=[.ty (.ls (.i .i64)),.ty (.i .i64),.ty (.i .i64)]
abbrev ZX:List jZ:=[.ty (.st .config),.ty (.st .config)]
abbrev ZY:List jZ:=[.ty (.st .config),.ty (.i .i64)]
abbrev ZZ:List jZ:=[.ty (.ls (.st .entry)),.ty (.i .i64),.ty (.i .i64)]
abbrev Z0:List jZ:=[.ty (.st .machine),.ty (.i .i64)]
abbrev Z1:List jZ:=[.ty (.st .cluster),.ty (.i .i64),.ty (.st .op)]
abbrev Z2:List jZ:=[.ty (.ls (.st .entry)),.ty (.i .i64)]
abbrev Z3:List jZ:=[.ty (.st .lease),.ty (.i .i64)]
abbrev Z4:List jZ:=[.ty (.i .i64),.ty (.ls (.st .entry))]
abbrev Z5:List jZ:=[.ty (.ls (.st .entry)),.ty (.i .i64),.ty (.ls (.st .entry))]
abbrev Z6:List jZ:=[.ty (.st .server),.ty (.st .config),.ty (.i .i64),.ty (.ls (.st .entry))]
abbrev Z7:List jZ:=[.ty (.st .cluster),.ty (.i .i64),.ty (.i .i64),.ty (.i .i64)]
abbrev Z8:List jZ:=[.ty (.st .cluster),.ty (.st .event)]
abbrev Z9:List jZ:=[.ty (.i .i64),.ty (.i .i64)]
abbrev aaa:List jZ:=[.ty (.ls (.i .i64)),.fc 182]
abbrev aab:List jZ:=[.ty (.ls (.st .place)),.fc 184]
abbrev aac:List jZ:=[.ty (.i .i64),.pr (.st .cluster)]
abbrev aad:List jZ:=[.ty (.ls (.st .entry)),.fc 116]
abbrev LF:Type:=(Int×Unit×Unit×Unit×Int×Int×Int×Int×Int×Unit×Unit)
abbrev MT:Type:=(Int×List qj×List Int×List nF×Int×Int×Int×Int×Int×List uO×Unit)
abbrev Qx:Type:=(Int×Int×Unit×Unit×Unit)
abbrev UF:Type:=(Unit×Int×Unit)
abbrev Zr:Type:=(Unit×Unit×Int×Unit)
abbrev Zs:Type:=(Unit×Unit×Unit)
abbrev aa0:Type:=(Unit×Unit×Unit×Int×Unit)
abbrev aa1:Type:=(List nF×Int×Unit)
abbrev aa2:Type:=(List Int×List Int×Unit×Int×Unit)
abbrev aa3:Type:=(List Int×List nr×Unit)
abbrev Yo:Type:=(Int×Unit×Unit×Unit×Bool×Int×Unit)
abbrev Yp:Type:=(Bool×Bool×Int×Int×Int×Int×List Int×List Int×Int×List rk×Int×List rk×Unit)
abbrev Yq:Type:=(Unit×Unit×Unit×Unit×Unit×Unit×Int×Unit)
abbrev aaj:Type:=(Int×Unit×List Int×List nF×Int×Int×Int×Int×Int×List uO×Unit)
abbrev aak:Type:=(List Int×Int×Unit)
abbrev aal:Type:=(List Int×Int×Int×Unit)
abbrev aam:Type:=(List rk×Int×Unit)
abbrev aan:Type:=(List Int×Unit×Int×Unit)
abbrev aao:Type:=(Unit×Int×Unit×Int×Unit)
abbrev aap:Type:=(List rk×List rk×Int×Unit)
abbrev aaq:Type:=(List rk×Unit×Int×Int×Unit)
abbrev aar:Type:=(List Int×List Int×Int×Int×Unit)
abbrev aas:Type:=(List rk×List rk×Int×Int×Unit)
abbrev Kt:Nat×lV:=(1,.cl (.ptr 0 0))
abbrev Kz:Nat×lV:=(1,.cl (.int .i64))
abbrev MS:Nat×lV:=(2,.cl (.ptr 0 0))
abbrev Ng:Nat×lV:=(3,.cl (.int .i64))
abbrev NF:Nat×lV:=(5,.cl (.int .i64))
abbrev NX:Nat×lV:=(0,.cl (.ro (.i .i64)))
abbrev Oz:Nat×lV:=(4,.cl (.int .i64))
abbrev OA:Nat×lV:=(7,.cl (.int .i64))
abbrev OB:Nat×lV:=(6,.cl (.ptr 1 0))
abbrev O2:Nat×lV:=(2,.cl (.dead))
abbrev MA:Nat×lV:=(5,.cl (.own 0 (.i .i64)))
abbrev MB:Nat×lV:=(0,.cl (.ro (.st .entry)))
abbrev M3:Nat×lV:=(2,.cl (.bl))
abbrev M4:Nat×lV:=(6,.cl (.int .i64))
abbrev NE:Nat×lV:=(2,.cl (.ptr 1 0))
abbrev Ow:Nat×lV:=(4,.cl (.dead))
abbrev Ox:Nat×lV:=(8,.cl (.int .i64))
abbrev Oy:Nat×lV:=(0,.cl (.own 0 (.i .i64)))
abbrev Pb:Nat×lV:=(2,.cl (.int .i64))
abbrev Pc:Nat×lV:=(4,.cl (.ptr 0 0))
abbrev Pd:Nat×lV:=(9,.cl (.bl))
abbrev Pe:Nat×lV:=(12,.cl (.int .i64))
abbrev P7:Nat×lV:=(1,.cl (.ro (.i .i64)))
abbrev QV:Nat×lV:=(4,.cl (.ptr 1 0))
abbrev QW:Nat×lV:=(3,.cl (.ptr 0 0))
abbrev QX:Nat×lV:=(4,.cl (.ptr 2 0))
abbrev QY:Nat×lV:=(5,.cl (.ptr 3 0))
abbrev QZ:Nat×lV:=(7,.cl (.own 0 (.st .entry)))
abbrev Sf:Nat×lV:=(0,.cl (.ro (.st .place)))
abbrev Sg:Nat×lV:=(11,.cl (.int .i64))
abbrev Si:Nat×lV:=(10,.cl (.int .i64))
abbrev Sj:Nat×lV:=(9,.cl (.own 1 (.i .i64)))
abbrev TK:Nat×lV:=(3,.cl (.ptr 1 0))
abbrev TL:Nat×lV:=(4,.cl (.bl))
abbrev TM:Nat×lV:=(3,.cl (.own 0 (.i .i64)))
abbrev TN:Nat×lV:=(6,.cl (.own 0 (.st .entry)))
abbrev Vq:Nat×lV:=(3,.cl (.ptr 2 0))
abbrev Vr:Nat×lV:=(8,.cl (.bl))
abbrev Vt:Nat×lV:=(7,.cl (.bl))
abbrev WP:Nat×lV:=(6,.cl (.own 0 (.i .i64)))
abbrev WQ:Nat×lV:=(8,.cl (.own 0 (.i .i64)))
abbrev WR:Nat×lV:=(3,.cl (.str))
abbrev WS:Nat×lV:=(8,.cl (.own 0 (.st .entry)))
abbrev Ye:Nat×lV:=(7,.cl (.ptr 3 0))
abbrev Yf:Nat×lV:=(7,.cl (.own 0 (.i .i64)))
abbrev Yg:Nat×lV:=(9,.cl (.own 0 (.i .i64)))
abbrev Yh:Nat×lV:=(1,.cl (.ro (.st .entry)))
abbrev Yi:Nat×lV:=(8,.cl (.ptr 1 0))
abbrev Yj:Nat×lV:=(6,.cl (.ptr 2 0))
abbrev Yk:Nat×lV:=(13,.cl (.int .i64))
abbrev Yl:Nat×lV:=(33,.cl (.own 1 (.i .i64)))
abbrev Ym:Nat×lV:=(34,.cl (.int .i64))
abbrev Yn:Nat×lV:=(35,.cl (.int .i64))
abbrev aae:Nat×lV:=(3,.cl (.own 1 (.st .place)))
abbrev aaf:Nat×lV:=(5,.cl (.own 1 (.st .event)))
abbrev aag:Nat×lV:=(11,.cl (.own 1 (.i .i64)))
abbrev aah:Nat×lV:=(10,.cl (.own 0 (.i .i64)))
abbrev aai:Nat×lV:=(7,.cl (.own 0 (.st .reply)))
abbrev IB:List Ty:=[.i .i64]
abbrev Wt:List Ty:=[.st .entry,.i .i64,.st .server,.i .i64,.st .config,.st .place,.i .i64,.i .i64]
abbrev Xy:List Ty:=[.st .server,.i .i64,.st .config,.st .place]
abbrev Xz:List Ty:=[.st .entry,.i .i64,.i .i64]
abbrev Yz:List Ty:=[.i .i64,.st .server,.i .i64,.st .config,.st .place]
abbrev Zw:List Ty:=[.st .config]
abbrev Zx:List Ty:=[.st .server]
abbrev Zy:List Ty:=[.i .i64,.st .session]
abbrev Zz:List Ty:=[.st .entry]
abbrev aa5:List Ty:=[.i .i64,.i .i64]
abbrev Yy:List Ty:=[.i .i64,.i .i64,.i .i64]
abbrev aay:List Ty:=[.st .server,.i .i64,.st .place]
abbrev aaz:List Ty:=[.i .i64,.i .i64,.i .i64,.i .i64]
abbrev aaA:List Ty:=[.st .reply,.st .server,.i .i64,.st .config,.st .place]
abbrev JA:List Sh:=[.int .i64,.ro (.st .server),.ro (.i .i64),.ro (.st .config),.int .i64,.int .i64,.int .i64,.int .i64,.int .i64,.ro (.st .place)]
abbrev Lw:List Sh:=[.int .i64,.em,.em,.em,.int .i64,.int .i64,.int .i64,.int .i64,.int .i64,.em]
abbrev Sk:List Sh:=[.int .i64,.own 2 (.st .server),.own 3 (.i .i64),.own 4 (.st .config),.int .i64,.int .i64,.int .i64,.int .i64,.int .i64,.own 5 (.st .place)]
abbrev Vu:List Sh:=[.int .i64,.own 0 (.st .server),.own 1 (.i .i64),.own 2 (.st .config),.int .i64,.int .i64,.int .i64,.int .i64,.int .i64,.own 3 (.st .place)]
abbrev Wo:List Sh:=[.ro (.st .config),.int .i64]
abbrev Wq:List Sh:=[.ro (.i .i64),.ro (.st .session)]
abbrev Wr:List Sh:=[.int .i64,.own 1 (.st .server),.own 2 (.i .i64),.own 3 (.st .config),.int .i64,.int .i64,.int .i64,.int .i64,.int .i64,.own 4 (.st .place)]
abbrev Ws:List Sh:=[.int .i64,.int .i64,.own 6 (.i .i64),.own 7 (.i .i64)]
abbrev Xx:List Sh:=[.int .i64,.int .i64,.own 1 (.i .i64),.own 2 (.i .i64)]
abbrev Zv:List Sh:=[.em,.int .i64]
abbrev WT:List Sh:=[.own 0 (.st .config),.int .i64]
abbrev WU:List Sh:=[.int .i64,.own 0 (.st .server),.ro (.i .i64),.ro (.st .config),.int .i64,.int .i64,.int .i64,.int .i64,.int .i64,.ro (.st .place)]
abbrev WV:List Sh:=[.bl,.int .i64]
abbrev WW:List Sh:=[.own 0 (.i .i64),.own 1 (.st .session)]
abbrev Yt:List Sh:=[.int .i64,.int .i64,.bl,.int .i64]
abbrev Yu:List Sh:=[.int .i64,.int .i64,.own 2 (.i .i64),.own 3 (.i .i64)]
abbrev Yv:List Sh:=[.bl,.bl,.int .i64,.int .i64,.int .i64,.int .i64,.ro (.i .i64),.ro (.i .i64),.int .i64,.ro (.st .entry),.int .i64,.ro (.st .entry)]
abbrev Yw:List Sh:=[.int .i64,.int .i64,.own 0 (.i .i64),.own 1 (.i .i64)]
abbrev Yx:List Sh:=[.int .i64,.int .i64,.own 2 (.i .i64),.own 1 (.i .i64)]
abbrev aav:List Sh:=[.int .i64,.own 0 (.st .server),.own 1 (.i .i64),.em,.int .i64,.int .i64,.int .i64,.int .i64,.int .i64,.own 2 (.st .place)]
abbrev aaw:List Sh:=[.int .i64,.int .i64,.int .i64,.int .i64,.int .i64,.int .i64]
abbrev aax:List Sh:=[.int .i64,.int .i64,.em,.em]
def sb0:ByteArray:=⟨⟨[0,1,2,2,3,3,3,3,4,4,4,4,4,4,4,4,5,5,5,5,5,5,5,5,5,5,5,5,5,5,5,5,6,6,6,6,6,6,6,6,6,6,6,6,6,6,6,6,6,6,6,6,6,6,6,6,6,6,6,6,6,6,6,6,7,7,7,7,7,7,7,7,7,7,7,7,7,7,7,7,7,7,7,7,7,7,7,7,7,7,7,7,7,7,7,7,7,7,7,7,7,7,7,7,7,7,7,7,7,7,7,7,7,7,7,7,7,7,7,7,7,7,7,7,7,7,7,7,8,8,8,8,8,8,8,8,8,8,8,8,8,8,8,8,8,8,8,8,8,8,8,8,8,8,8,8,8,8,8,8,8,8,8,8,8,8,8,8,8,8,8,8,8,8,8,8,8,8,8,8,8,8,8,8,8,8,8,8,8,8,8,8,8,8,8,8,8,8,8,8,8,8,8,8,8,8,8,8,8,8,8,8,8,8,8,8,8,8,8,8,8,8,8,8,8,8,8,8,8,8,8,8,8,8,8,8,8,8,8,8,8,8,8,8,8,8,8,8,8,8,8,8,8,8,8,8]⟩⟩
theorem Ku:Tryz.prog.follows .mixedOrders=true:=by kernel_rfl
abbrev Il[dE] :=@DF _ _ DE Ku _
abbrev EW[dE] :=@Dw _ _ DE Ku _
abbrev coM[dE] :=@DA _ _ DE Ku _
abbrev coI[dE] :=@Dz _ _ DE Ku _
abbrev coC[dE] :=@Dx _ _ DE Ku _
abbrev coT[dE] :=@DB _ _ DE Ku _
def XU(a0:Hd):Option (Bool×Unit):=some (decide (1048576< (a0.n:Int)),())
section
open Go.RowKit
theorem XI(x:Hd)(w:World):Calls Tryz.prog 6 #[.slice x.a x.n x.c] w λe w'=>e= .returned (.bool (decide (1048576< (x.n:Int))))/\Below w.heap.size w w':=by
 have mixed:Tryz.prog.follows .mixedOrders=true:=Ku
 go_enter Tryz.func6,Tryz.ntmps6
 go_wp2
 go_ret
 exact⟨rfl,Below.refl _ _⟩
end
def abB[dE] :=Dy (P:=Tryz.prog) 6 (by kernel_rfl) (BP Tryz.func6 (by kernel_rfl) rfl) [.ty .h] [.b] rfl rfl (λx=>XU x.1) λx y h w=>by obtain rfl:=Option.some.inj h;exact XI x.1 w
def Ua[dE](a0:Hd):Option (List qh×Unit):=(C5 a0).map λc=>([c],())
section
open Go.RowKit
set_option maxHeartbeats 4000000 in
set_option maxRecDepth 100000 in
theorem VG[dE](x:Hd)(c:qh)(hx:C5 x=some c)(w:World)(hB: ∀a v,dE.w.cell? a=some v->w.cell? a=some v):
  Calls Tryz.prog 24 #[.slice x.a x.n x.c] w λr w'=> ∃b cs e,r= .returned (.pointer (some ⟨b,0,none⟩))/\Below w.heap.size w w'/\w.heap.size<=b/\w'.heap[b]? =some (.cells cs e (0,0))/\cs.size=3/\jy cs 0 c:=by
 have mixed:Tryz.prog.follows .mixedOrders=true:=Ku;obtain⟨l,hl,rfl⟩:=aj.1 hx;obtain⟨hlen,hg⟩:=Bc hl
 have hg2: ∀ (k:Nat) m,l[k]? =some m-> ∃ad,x.a=some ad/\w.cell? (ad.add k)=some (.int .u8 m):=λk m hk=>by obtain⟨ad,h1,h2⟩:=hg k m hk;exact⟨ad,h1,hB _ _ h2⟩
 clear hg hB hl hx;obtain⟨a,n,cp⟩:=x;simp only at hlen hg2 ⊢;obtain⟨h0,hh0⟩: ∃h0,h0=wrap64 (10101+(n:Int)):=⟨_,rfl⟩
 rw[<-hh0];obtain⟨hf,hhf⟩: ∃hf,hf=(l.take 4000).foldl C9 h0:=⟨_,rfl⟩
 rw[<-hhf]
 go_enter Tryz.func24,Tryz.ntmps24
 go_wp2
 rw[<-hh0]
 go_loop [3,4] (λh i=> ∃k:Nat,k<=n/\k<=4000/\i= .int .i64 k/\h= .int .i64 ((l.take k).foldl C9 h0)) (λ_ i=>n-(intOf i).toNat)
 case atStart=>exact⟨0,bM _,bM _,rfl,by rw[dw,List.foldl_nil]⟩
 case round=>
  obtain⟨k,hk,hk4,rfl,rfl⟩:=hrel;clear hh0;by_cases h1:k<n
  ·by_cases h2:k<4000
   ·have hgk:l[k]? =some l[k] :=aq (by omega);obtain⟨ad,rfl,hc⟩:=hg2 k _ hgk
    have hnext: (l.take (k+1)).foldl C9 h0=C9 ((l.take k).foldl C9 h0) l[k] :=by rw[DR,hgk,List.foldl_append,Option.toList_some,List.foldl_cons,List.foldl_nil]
    generalize l[k] =m at hc hnext hgk;clear hg2
    go_wp2
    refine⟨⟨k+1,h1,h2,by rw[Int.natCast_succ],by rw[hnext];rfl⟩,?_⟩;simp only[intOf];omega
   ·have hk0:l.take 4000=l.take k:=by rw[show k=4000 by omega]
    clear hg2
    go_wp2
    go_ret
    rw[hk0] at hhf;subst hhf;exact⟨_,rfl,(Below.refl _ w).alloc (ay _) _,ay _,_,⟨_,iw w _⟩,rfl,rfl,rfl,rfl⟩
  ·have hk0:l.take 4000=l.take k:=by rw[bW (by omega),bW (by omega)]
   clear hg2
   go_wp2
   go_ret
   rw[hk0] at hhf;subst hhf;exact⟨_,rfl,(Below.refl _ w).alloc (ay _) _,ay _,_,⟨_,iw w _⟩,rfl,rfl,rfl,rfl⟩
end
def Zo[dE] :=Dr (P:=Tryz.prog) 24 (by kernel_rfl) (BP Tryz.func24 (by kernel_rfl) rfl) C5 VG
def Nt[dE](a0:List qh):Option (List qh×Int×Unit):=C4 CK a0
section
open Go.RowKit
set_option maxHeartbeats 4000000 in
set_option maxRecDepth 100000 in
theorem UP[dE](c:qh)(y:qh×Int)(hy:CK c=some y)(w:World)(b O:Nat)(cs:Array Value)(e:TypeId)(hB: ∀a v,dE.w.cell? a=some v->w.cell? a=some v/\a.block≠b)(hb:w.heap[b]? =some (.cells cs e (0,0)))(hc:jy cs O c):
   Calls Tryz.prog 77 #[.pointer (some ⟨b,O,none⟩)] w λr w'=>r= .returned (.int .i64 y.2)/\w'.os=w.os/\w'.tape=w.tape/\w'.output=w.output/\w'.heap.size=w.heap.size/\(∀k,k≠b->w'.heap[k]? =w.heap[k]?)/\ ∃cs',w'.heap[b]? =some (.cells cs' e (0,0))/\cs'.size=cs.size/\jy cs' O y.1/\ ∀k,(k<O\/O+3<=k)->cs'[k]? =cs[k]? :=by
 have mixed:Tryz.prog.follows .mixedOrders=true:=Ku;have h0:w.cell? ⟨b,O,none⟩=some (.slice c.b.a c.b.n c.b.c):=by simp[World.cell?,hb,hc.1]
 have h1:w.cell? ⟨b,O+1,none⟩=some (.int .i64 c.i):=by simp[World.cell?,hb,hc.2.1]
 have h2:w.cell? ⟨b,O+2,none⟩=some (.int .i64 c.h):=by simp[World.cell?,hb,hc.2.2]
 have hf1:w.frozen? ⟨b,O+1,none⟩=false:=by simp[World.frozen?,hb]
 have hf2:w.frozen? ⟨b,O+2,none⟩=false:=by simp[World.frozen?,hb]
 unfold CK at hy;split at hy
 ·rename_i hi;split at hy
  ·rename_i hi0;obtain⟨m,hm,rfl⟩:=aj.1 hy;obtain⟨l,hl,hm⟩:=ah.1 hm;obtain⟨_,hg⟩:=Bc hl;obtain⟨ad,ha,hcell⟩:=hg _ _ hm;obtain⟨hc2,hne⟩:=hB _ _ hcell;rw[j8] at hne;clear hy hg hB hl;obtain⟨⟨a,n,cp⟩,i,h⟩:=c;simp only at hi hi0 ha h0 h1 h2 hc2 hm ⊢;subst ha;clear hm hcell;have hk: ∀v,(w.setCell ⟨b,O+2,none⟩ v).cell? (ad.add i.toNat)=some (.int .u8 m):=λv=>(World.cell?_setCell_other w _ _ v (λe=>hne (by rw[<-j8 ad i.toNat,<-e]))).trans hc2
   go_enter Tryz.func77,Tryz.ntmps77
   go_wp2
   go_region
   go_wp2
   go_region
   go_wp2
   go_region
   go_wp2
   go_ret
   exact⟨rfl,rfl,rfl,rfl,CL hb hc (.inl rfl)⟩
  ·cases hy
 ·rename_i hi;obtain rfl:=Option.some.inj hy;obtain⟨⟨a,n,cp⟩,i,h⟩:=c;simp only at hi h0 h1 h2 ⊢;clear hy hB
  go_enter Tryz.func77,Tryz.ntmps77
  go_wp2
  go_region
  go_wp2
  go_region
  go_wp2
  go_ret
  exact⟨rfl,rfl,rfl,rfl,CL hb hc (.inr ⟨rfl,rfl⟩)⟩
end
def X9[dE] :=Dt (P:=Tryz.prog) 77 (by kernel_rfl) (BP Tryz.func77 (by kernel_rfl) rfl) CK UP
def EI[dE](a0:List qh)(a1:Int):Option ((List qh)×Int×Unit):=
 br (decide (a1<=0)) (some (a0,0,())) (br (decide (a1<=256)) ((Nt a0).bind λy1=>iteP (y1.1.length=a0.length) (iteP (a1=0) none (some (y1.1,(Int.tmod y1.2.1 a1),()))) none) ((Nt a0).bind λy2=>iteP (y2.1.length=a0.length) ((Nt y2.1).bind λy3=>iteP (y3.1.length=y2.1.length) ((Nt y3.1).bind λy4=>iteP (y4.1.length=y3.1.length) ((Nt y4.1).bind λy5=>iteP (y5.1.length=y4.1.length) (iteP (a1=0) none (some (y5.1,(Int.tmod (IntKind.wrap .i64 ((IntKind.wrap .i64 ((IntKind.wrap .i64 ((IntKind.wrap .i64 (y2.2.1*16777216))+(IntKind.wrap .i64 (y3.2.1*65536))))+(IntKind.wrap .i64 (y4.2.1*256))))+y5.2.1)) a1),()))) none) none) none) none))
def Mb[dE] :=coT 26 Tryz.f26 (.st .cur) Vo JR (λl x=>EI l x.1) [X9] [] (by kernel_rfl) λl x=>by simp only[EI,tm,-eq_self];kernel_rfl
abbrev Qb:LX:=⟨⟨[(0,.cl (.pt 0 3)),aae,Oz],[],[.st .cur,.st .place],1,22⟩,[(.ext 0,⟨[aae],[],[.st .cur,.st .place],1,22⟩)],[],[0,3,4],[3]⟩
def LS[dE](s:Zr×Unit×List qh×List uO×Unit):Qb.R:=
 br (decide (s.1.2.2.1<5)) ((EI s.2.2.1 4).bind λy4=>iteP (y4.1.length=s.2.2.1.length) ((EI y4.1 4).bind λy5=>iteP (y5.1.length=y4.1.length) ((EI y5.1 4).bind λy6=>iteP (y6.1.length=y5.1.length) (iteP ((s.2.2.2.1++([(⟨y4.2.1,(IntKind.wrap .i64 (1+y5.2.1)),y6.2.1⟩:uO)]:List uO)).length*24<=2 ^ 40) (some (.inl (((),(),(IntKind.wrap .i64 (s.1.2.2.1+1)),()),(()),y6.1,(s.2.2.2.1++([(⟨y4.2.1,(IntKind.wrap .i64 (1+y5.2.1)),y6.2.1⟩:uO)]:List uO)),()))) none) none) none) none) (some (.inr (((),()),(()),s.2.2)))
def UC[dE] :=nx LS
def UN[dE] :=Il Tryz.f96 [0] Qb LS [Mb] [] (by kernel_rfl) λs=>by simp only[LS,tm,-eq_self];kernel_rfl
def Mr[dE](a0:List qh):Option ((List qh)×(List uO)×Unit):=
 (UC (((),(),0,()),(()),a0,([]:List uO),())).bind λe7=>some e7.2.2
def Wh[dE] :=coT 96 Tryz.f96 (.st .cur) [] [.ls (.st .place)] (λl _=>Mr l) [] [UN] (by kernel_rfl) λl x=>by simp only[Mr,tm];kernel_rfl
def Em(a0:Int)(a1:Int)(a2:Int):Option (Bool×Unit):=
 br (decide (a0≥a1)) (some ((decide (a0<=a2)),())) (some (false,()))
def Fl[dE] :=EW 57 Tryz.f57 Yb [.b] (λx=>Em x.1 x.2.1 x.2.2.1) [] [] (by kernel_rfl) λx=>by simp only[Em,tm];kernel_rfl
abbrev Pj:LX:=⟨⟨[Sf,Ng],[],[],0,38⟩,[(.ret,⟨[Sf,M3],[],[],0,38⟩),(.ext 0,⟨[Sf,O2],[],[],0,38⟩)],[],[0,3],[0,2]⟩
def HL(s: (List uO×Int×Unit)×Unit×Unit):Pj.R:=
 br (decide (s.1.2.1< (s.1.1.length:Int))) (iteP (0<=s.1.2.1) ((s.1.1[s.1.2.1.toNat]?).bind λx3=>(Em x3.rack 0 9).bind λy4=>br (!y4.1) (some (.inr (.inl ((s.1.1,false,()),(()),(()))))) (iteP (0<=s.1.2.1) ((s.1.1[s.1.2.1.toNat]?).bind λx5=>(Em x5.capacity 0 9).bind λy6=>br (!y6.1) (some (.inr (.inl ((s.1.1,false,()),(()),(()))))) (iteP (0<=s.1.2.1) ((s.1.1[s.1.2.1.toNat]?).bind λx7=>(Em x7.load 0 99).bind λy8=>br (!y8.1) (some (.inr (.inl ((s.1.1,false,()),(()),(()))))) (some (.inl ((s.1.1,(IntKind.wrap .i64 (s.1.2.1+1)),()),(()),(()))))) none)) none)) none) (some (.inr (.inr ((s.1.1,(),()),(()),(())))))
def Nd:=nx HL
def Tu[dE] :=Il Tryz.f125 [0] Pj HL [Fl] [] (by kernel_rfl) λs=>by simp only[HL,tm];kernel_rfl
def Fb(a0:List uO):Option (Bool×Unit):=
 (Nd ((a0,0,()),(()),(()))).bind λe9=>Sum.elim (λe9_0=>some e9_0.1.2) (λe9_1=>some (((e9_1.1.1.length:Int)==5),())) e9
def Lq[dE] :=EW 125 Tryz.f125 Yc [.b] (λx=>Fb x.1) [] [Tu] (by kernel_rfl) λx=>by simp only[Fb,tm];kernel_rfl
def Lm(a0:Int):Option (qj×Unit):=
 (Em a0 1 2).bind λy1=>br (!y1.1) (some ((⟨true,true,1,0,(⟨0,0,([]:List Int),([]:List Int)⟩:nF),0,([]:List rk),0,([]:List rk)⟩:qj),())) (some ((⟨true,true,a0,0,(⟨0,0,([]:List Int),([]:List Int)⟩:nF),0,([]:List rk),0,([]:List rk)⟩:qj),()))
def Vc[dE] :=EW 161 Tryz.f161 Vo Zt (λx=>Lm x.1) [Fl] [] (by kernel_rfl) λx=>by simp only[Lm,tm];kernel_rfl
abbrev OM:LX:=⟨⟨[MS,TK,Oz],[Lw,aav],aay,0,25⟩,[(.ext 0,⟨[MS,TK],[Lw,aav],aay,0,25⟩)],[.b 1 1 (.st .server)],[2,3,4],[2,3]⟩
def I5(s:Zr×(LF×LF×Unit)×List qj×List Int×List uO×Unit):OM.R:=
 br (decide (s.1.2.2.1<5)) ((Lm 1).bind λy34=>iteP ((s.2.2.1++([y34.1]:List qj)).length*152<=2 ^ 40) (some (.inl (((),(),(IntKind.wrap .i64 (s.1.2.2.1+1)),()),s.2.1,(s.2.2.1++([y34.1]:List qj)),s.2.2.2))) none) (some (.inr (((),(),()),s.2)))
def Sb:=nx I5
def SB[dE] :=Il Tryz.f95 [0] OM I5 [Vc] [] (by kernel_rfl) λs=>by simp only[I5,tm];kernel_rfl
def Iy(a0:List uO):Option (qg×Unit):=
 (Fb a0).bind λy1=>br (!y1.1) (some ((⟨0,([]:List qj),([]:List Int),(⟨([]:List nF),0⟩:jY),0,(⟨0,0,0⟩:uL),([]:List uO)⟩:qg),())) (iteP (0<=(5:Int)/\(5:Int)=5/\5*((8:Nat):Int)<=2 ^ 40) (iteP ((([]:List uO)++a0).length*24<=2 ^ 40) ((Sb (((),(),0,()),((0,(),(),(),0,0,0,0,0,(),()),(0,(),(),(),0,3,0,0,0,(),()),()),([]:List qj),(List.replicate (5:Int).toNat (0:Int)),(([]:List uO)++a0),())).bind λe35=>some ((⟨e35.2.1.2.1.1,e35.2.2.1,e35.2.2.2.1,(⟨([]:List nF),e35.2.1.2.1.2.2.2.2.1⟩:jY),e35.2.1.2.1.2.2.2.2.2.1,(⟨e35.2.1.2.1.2.2.2.2.2.2.1,e35.2.1.2.1.2.2.2.2.2.2.2.1,e35.2.1.2.1.2.2.2.2.2.2.2.2.1⟩:uL),e35.2.2.2.2.1⟩:qg),())) none) none)
def Ur[dE] :=EW 95 Tryz.f95 Yc UG (λx=>Iy x.1) [Lq] [SB] (by kernel_rfl) λx=>by simp only[Iy,tm,-eq_self];kernel_rfl
def Lo[dE](a0:List qh)(a1:Int):Option ((List qh)×Bool×Unit):=
 (EI a0 a1).bind λy1=>iteP (y1.1.length=a0.length) (some (y1.1,(y1.2.1==0),())) none
def P1[dE] :=coT 142 Tryz.f142 (.st .cur) Vo [.b] (λl x=>Lo l x.1) [Mb] [] (by kernel_rfl) λl x=>by simp only[Lo,tm,-eq_self];kernel_rfl
def Jb[dE](a0:List qh)(a1:List Int):Option ((List qh)×Int×Unit):=
 (EI a0 (a1.length:Int)).bind λy1=>iteP (y1.1.length=a0.length) (iteP (0<=y1.2.1) ((a1[y1.2.1.toNat]?).bind λx2=>some (y1.1,x2,())) none) none
def Ol[dE] :=coT 71 Tryz.f71 (.st .cur) Wk JR (λl x=>Jb l x.1) [Mb] [] (by kernel_rfl) λl x=>by simp only[Jb,tm,-eq_self];kernel_rfl
def Qj[dE](a0:List qh):Option ((List qh)×Op×Unit):=
 (EI a0 3).bind λy1=>iteP (y1.1.length=a0.length) ((EI y1.1 5).bind λy2=>iteP (y2.1.length=y1.1.length) ((EI y2.1 3).bind λy3=>iteP (y3.1.length=y2.1.length) ((EI y3.1 10).bind λy4=>iteP (y4.1.length=y3.1.length) ((Lo y4.1 3).bind λy5=>iteP (y5.1.length=y4.1.length) (br y5.2.1 ((Jb y5.1 ([0,0,1,5,9]:List Int)).bind λy6=>iteP (y6.1.length=y5.1.length) (some (y6.1,(⟨y1.2.1,(IntKind.wrap .i64 (1+y2.2.1)),2,y3.2.1,y6.2.1,y4.2.1⟩:Op),())) none) (some (y5.1,(⟨y1.2.1,(IntKind.wrap .i64 (1+y2.2.1)),1,y3.2.1,0,y4.2.1⟩:Op),()))) none) none) none) none) none
def aaY[dE] :=coT 78 Tryz.f78 (.st .cur) [] [.st .op] (λl _=>Qj l) [Mb,P1,Ol] [] (by kernel_rfl) λl x=>by simp only[Qj,tm,-eq_self];kernel_rfl
def Mn[dE](a0:List qh):Option ((List qh)×wN×Unit):=
 (EI a0 5).bind λy1=>iteP (y1.1.length=a0.length) ((EI y1.1 24).bind λy2=>iteP (y2.1.length=y1.1.length) (br (y2.2.1==0) ((EI y2.1 20).bind λy3=>iteP (y3.1.length=y2.1.length) (some (y3.1,(⟨3,y1.2.1,0,(IntKind.wrap .i64 (1+y3.2.1)),(⟨0,0,0,0,0,0⟩:Op)⟩:wN),())) none) (br (y2.2.1==1) ((EI y2.1 2).bind λy4=>iteP (y4.1.length=y2.1.length) ((EI y4.1 3).bind λy5=>iteP (y5.1.length=y4.1.length) (some (y5.1,(⟨4,0,y4.2.1,(IntKind.wrap .i64 (1+y5.2.1)),(⟨0,0,0,0,0,0⟩:Op)⟩:wN),())) none) none) (br (y2.2.1==2) (some (y2.1,(⟨5,0,0,0,(⟨0,0,0,0,0,0⟩:Op)⟩:wN),())) (br (y2.2.1==3) (some (y2.1,(⟨6,y1.2.1,0,0,(⟨0,0,0,0,0,0⟩:Op)⟩:wN),())) (let j23 (p6:Bool):Option ((List qh)×wN×Unit):=br p6 (some (y2.1,(⟨7,y1.2.1,0,0,(⟨0,0,0,0,0,0⟩:Op)⟩:wN),())) (br (y2.2.1==6) ((Lo y2.1 3).bind λy7=>iteP (y7.1.length=y2.1.length) (br y7.2.1 (some (y7.1,(⟨8,y1.2.1,0,0,(⟨0,0,0,0,0,0⟩:Op)⟩:wN),())) ((Qj y7.1).bind λy26=>iteP (y26.1.length=y7.1.length) (some (y26.1,(⟨1,y1.2.1,0,0,y26.2.1⟩:wN),())) none)) none) (br (y2.2.1==7) ((Jb y2.1 ([0,0,1]:List Int)).bind λy8=>iteP (y8.1.length=y2.1.length) (some (y8.1,(⟨9,y1.2.1,0,y8.2.1,(⟨0,0,0,0,0,0⟩:Op)⟩:wN),())) none) (br (y2.2.1==8) ((EI y2.1 3).bind λy9=>iteP (y9.1.length=y2.1.length) (some (y9.1,(⟨10,0,0,(IntKind.wrap .i64 (1+y9.2.1)),(⟨0,0,0,0,0,0⟩:Op)⟩:wN),())) none) (let j22 (p10:Bool):Option ((List qh)×wN×Unit):=br p10 ((EI y2.1 12).bind λy11=>iteP (y11.1.length=y2.1.length) (some (y11.1,(⟨11,0,0,y11.2.1,(⟨0,0,0,0,0,0⟩:Op)⟩:wN),())) none) (br (y2.2.1==11) ((EI y2.1 5).bind λy12=>iteP (y12.1.length=y2.1.length) ((EI y12.1 4).bind λy13=>iteP (y13.1.length=y12.1.length) (some (y13.1,(⟨12,y1.2.1,y12.2.1,(IntKind.wrap .i64 (1+y13.2.1)),(⟨0,0,0,0,0,0⟩:Op)⟩:wN),())) none) none) (br (y2.2.1==12) (some (y2.1,(⟨13,y1.2.1,0,0,(⟨0,0,0,0,0,0⟩:Op)⟩:wN),())) (br (y2.2.1==13) (some (y2.1,(⟨14,y1.2.1,0,0,(⟨0,0,0,0,0,0⟩:Op)⟩:wN),())) (br (y2.2.1==14) (some (y2.1,(⟨15,y1.2.1,0,0,(⟨0,0,0,0,0,0⟩:Op)⟩:wN),())) (let j21 (p14:Bool):Option ((List qh)×wN×Unit):=br p14 ((EI y2.1 3).bind λy15=>iteP (y15.1.length=y2.1.length) ((EI y15.1 20).bind λy16=>iteP (y16.1.length=y15.1.length) (some (y16.1,(⟨16,0,(IntKind.wrap .i64 (1+y15.2.1)),(IntKind.wrap .i64 (1+y16.2.1)),(⟨0,0,0,0,0,0⟩:Op)⟩:wN),())) none) none) (br (y2.2.1==17) ((EI y2.1 3).bind λy19=>iteP (y19.1.length=y2.1.length) (some (y19.1,(⟨2,y1.2.1,0,y19.2.1,(⟨0,0,0,0,0,0⟩:Op)⟩:wN),())) none) (br (y2.2.1==18) ((EI y2.1 3).bind λy20=>iteP (y20.1.length=y2.1.length) (some (y20.1,(⟨2,y1.2.1,0,y20.2.1,(⟨0,0,0,0,0,0⟩:Op)⟩:wN),())) none) ((Qj y2.1).bind λy27=>iteP (y27.1.length=y2.1.length) (some (y27.1,(⟨1,y1.2.1,0,0,y27.2.1⟩:wN),())) none)));br (y2.2.1==15) (j21 true) (j21 (y2.2.1==16)))))));br (y2.2.1==9) (j22 true) (j22 (y2.2.1==10))))));br (y2.2.1==4) (j23 true) (j23 (y2.2.1==5))))))) none) none
def Wf[dE] :=coT 162 Tryz.f162 (.st .cur) [] [.st .event] (λl _=>Mn l) [Mb,P1,Ol,aaY] [] (by kernel_rfl) λl x=>by simp only[Mn,tm,-eq_self];kernel_rfl
abbrev Pq:LX:=⟨⟨[(0,.cl (.pt 0 3)),aaf,M4],[],[.st .cur,.st .event],1,48⟩,[(.ext 0,⟨[aaf],[],[.st .cur,.st .event],1,48⟩)],[],[0,5,6],[5]⟩
def Jr[dE](s:Zr×Unit×List qh×List wN×Unit):Pq.R:=
 br (decide (s.1.2.2.1>0)) ((Mn s.2.2.1).bind λy21=>iteP (y21.1.length=s.2.2.1.length) (br (y21.2.1.kind==1) ((Lo y21.1 3).bind λy22=>iteP (y22.1.length=y21.1.length) (br (!y22.2.1) ((Jb y22.1 ([0,0,1]:List Int)).bind λy23=>iteP (y23.1.length=y22.1.length) (iteP ((s.2.2.2.1++([(⟨y21.2.1.kind,y23.2.1,y21.2.1.other,y21.2.1.n,y21.2.1.op⟩:wN)]:List wN)).length*80<=2 ^ 40) (some (.inl (((),(),(IntKind.wrap .i64 (s.1.2.2.1-1)),()),(()),y23.1,(s.2.2.2.1++([(⟨y21.2.1.kind,y23.2.1,y21.2.1.other,y21.2.1.n,y21.2.1.op⟩:wN)]:List wN)),()))) none) none) (iteP ((s.2.2.2.1++([y21.2.1]:List wN)).length*80<=2 ^ 40) (some (.inl (((),(),(IntKind.wrap .i64 (s.1.2.2.1-1)),()),(()),y22.1,(s.2.2.2.1++([y21.2.1]:List wN)),()))) none)) none) (iteP ((s.2.2.2.1++([y21.2.1]:List wN)).length*80<=2 ^ 40) (some (.inl (((),(),(IntKind.wrap .i64 (s.1.2.2.1-1)),()),(()),y21.1,(s.2.2.2.1++([y21.2.1]:List wN)),()))) none)) none) (some (.inr (((),()),(()),s.2.2)))
def Ld[dE] :=nx Jr
def TE[dE] :=Il Tryz.f97 [0] Pq Jr [P1,Wf,Ol] [] (by kernel_rfl) λs=>by simp only[Jr,tm,-eq_self];kernel_rfl
def Lp[dE](a0:List qh)(a1:Int):Option ((List qh)×(List wN)×Unit):=
 (EI a0 3).bind λy1=>iteP (y1.1.length=a0.length) ((EI y1.1 20).bind λy2=>iteP (y2.1.length=y1.1.length) ((Lo y2.1 2).bind λy3=>iteP (y3.1.length=y2.1.length) (br y3.2.1 ((EI y3.1 (IntKind.wrap .i64 (a1+1))).bind λy17=>iteP (y17.1.length=y3.1.length) ((Ld (((),(),y17.2.1,()),(()),y17.1,([(⟨4,0,1,2,(⟨0,0,0,0,0,0⟩:Op)⟩:wN),(⟨5,0,0,0,(⟨0,0,0,0,0,0⟩:Op)⟩:wN)]:List wN),())).bind λe28=>some e28.2.2) none) ((EI y3.1 (IntKind.wrap .i64 (a1+1))).bind λy29=>iteP (y29.1.length=y3.1.length) ((Ld (((),(),y29.2.1,()),(()),y29.1,([(⟨16,0,(IntKind.wrap .i64 (1+y1.2.1)),(IntKind.wrap .i64 (1+y2.2.1)),(⟨0,0,0,0,0,0⟩:Op)⟩:wN)]:List wN),())).bind λe40=>some e40.2.2) none)) none) none) none
def Vi[dE] :=coT 97 Tryz.f97 (.st .cur) Vo [.ls (.st .event)] (λl x=>Lp l x.1) [Mb,P1] [TE] (by kernel_rfl) λl x=>by simp only[Lp,tm,-eq_self];kernel_rfl
def OW[dE](a0:Hd):Option (qg×(List wN)×Unit):=
 (Ua a0).bind λy1=>(Mr y1.1).bind λy2=>iteP (y2.1.length=y1.1.length) ((Iy y2.2.1).bind λy3=>(Lp y2.1 24).bind λy4=>iteP (y4.1.length=y2.1.length) (some (y3.1,y4.2.1,())) none) none
def Xu[dE] :=EW 37 Tryz.f37 [.ty (.h)] aat (λx=>OW x.1) [Zo,Wh,Ur,Vi] [] (by kernel_rfl) λx=>by simp only[OW,tm,-eq_self];kernel_rfl
def II[dE](a0:Hd):Option (qg×(List wN)×Unit):=
 (OW a0).bind λy1=>some (y1.1,y1.2.1,())
def Ra[dE] :=EW 11 Tryz.f11 [.ty (.h)] aat (λx=>II x.1) [Xu] [] (by kernel_rfl) λx=>by simp only[II,tm];kernel_rfl
def Hk(a0:nF):Option (nF×Unit):=
 iteP ((([]:List Int)++a0.replicas).length*8<=2 ^ 40) (iteP ((([]:List Int)++a0.witnesses).length*8<=2 ^ 40) (some ((⟨a0.epoch,a0.primary,(([]:List Int)++a0.replicas),(([]:List Int)++a0.witnesses)⟩:nF),())) none) none
def Om[dE] :=EW 130 Tryz.f130 Wl [.st .config] (λx=>Hk x.1) [] [] (by kernel_rfl) λx=>by simp only[Hk,tm];kernel_rfl
def FT(a0:List rk):Option ((List rk)×Unit):=
 iteP ((([]:List rk)++a0).length*56<=2 ^ 40) (some ((([]:List rk)++a0),())) none
def Ki[dE] :=EW 60 Tryz.f60 P6 Wm (λx=>FT x.1) [] [] (by kernel_rfl) λx=>by simp only[FT,tm];kernel_rfl
def Hz(a0:qj):Option (qj×Unit):=
 (Hk a0.config).bind λy1=>(FT a0.log).bind λy2=>(FT a0.learned).bind λy3=>some ((⟨a0.up,a0.intact,a0.version,a0.epoch,y1.1,a0.first,y2.1,a0.commit,y3.1⟩:qj),())
def Qs[dE] :=EW 86 Tryz.f86 TJ Zt (λx=>Hz x.1) [Om,Ki] [] (by kernel_rfl) λx=>by simp only[Hz,tm];kernel_rfl
abbrev Q1:LX:=⟨⟨[Kt,NE,Vq,Oz],[Wo,Zv,WT],Zw,0,29⟩,[(.ext 0,⟨[MS,TK],[Zv,WT],Zw,0,29⟩)],[.b 2 0 (.st .config)],[1,2,3,4],[2,3]⟩
def JT(s:aa0×(aa1×UF×UF×Unit)×List nF×Unit):Q1.R:=
 br (decide (s.1.2.2.2.1< (s.2.1.1.1.length:Int))) (iteP (0<=s.1.2.2.2.1) ((s.2.1.1.1[s.1.2.2.2.1.toNat]?).bind λx14=>(Hk x14).bind λy15=>iteP ((s.2.2.1++([y15.1]:List nF)).length*64<=2 ^ 40) (some (.inl (((),(),(),(IntKind.wrap .i64 (s.1.2.2.2.1+1)),()),s.2.1,(s.2.2.1++([y15.1]:List nF)),()))) none) none) (some (.inr (((),(),()),s.2.1.2,s.2.2)))
def QT:=nx JT
def VA[dE] :=Il Tryz.f87 [0] Q1 JT [Om] [] (by kernel_rfl) λs=>by simp only[JT,tm];kernel_rfl
def KM(a0:jY):Option (jY×Unit):=
 (QT (((),(),(),0,()),((a0.configs,a0.activated,()),((),0,()),((),a0.activated,()),()),([]:List nF),())).bind λe16=>some ((⟨e16.2.2.1,e16.2.1.2.1.2.1⟩:jY),())
def Qr[dE] :=EW 87 Tryz.f87 Vp [.st .masterLog] (λx=>KM x.1) [] [VA] (by kernel_rfl) λx=>by simp only[KM,tm];kernel_rfl
abbrev Q3:LX:=⟨⟨[Kt,NE,Vq,Oz],[JA,Lw,WU],Zx,0,42⟩,[(.ext 0,⟨[Kt,NE,Vq],[JA,Lw,WU],Zx,0,42⟩)],[.b 2 1 (.st .server)],[1,2,3,4],[1,2,3]⟩
def JU(s:aa0×(MT×LF×aaj×Unit)×List qj×Unit):Q3.R:=
 br (decide (s.1.2.2.2.1< (s.2.1.1.2.1.length:Int))) (iteP (0<=s.1.2.2.2.1) ((s.2.1.1.2.1[s.1.2.2.2.1.toNat]?).bind λx56=>(Hz x56).bind λy57=>iteP ((s.2.2.1++([y57.1]:List qj)).length*152<=2 ^ 40) (some (.inl (((),(),(),(IntKind.wrap .i64 (s.1.2.2.2.1+1)),()),s.2.1,(s.2.2.1++([y57.1]:List qj)),()))) none) none) (some (.inr (((),(),(),()),s.2)))
def QU:=nx JU
def VB[dE] :=Il Tryz.f30 [0] Q3 JU [Qs] [] (by kernel_rfl) λs=>by simp only[JU,tm];kernel_rfl
def Fa(a0:qg):Option (qg×Unit):=
 (QU (((),(),(),0,()),((a0.now,a0.servers,a0.sides,a0.master.configs,a0.master.activated,a0.masterUp,a0.lease.epoch,a0.lease.holder,a0.lease.ends,a0.places,()),(0,(),(),(),0,0,0,0,0,(),()),(a0.now,(),a0.sides,a0.master.configs,a0.master.activated,a0.masterUp,a0.lease.epoch,a0.lease.holder,a0.lease.ends,a0.places,()),()),([]:List qj),())).bind λe58=>iteP ((([]:List Int)++e58.2.1.1.2.2.1).length*8<=2 ^ 40) ((KM (⟨e58.2.1.1.2.2.2.1,e58.2.1.1.2.2.2.2.1⟩:jY)).bind λy59=>iteP ((([]:List uO)++e58.2.1.1.2.2.2.2.2.2.2.2.2.1).length*24<=2 ^ 40) (some ((⟨e58.2.1.2.2.1.1,e58.2.2.1,(([]:List Int)++e58.2.1.1.2.2.1),y59.1,e58.2.1.2.2.1.2.2.2.2.2.1,(⟨e58.2.1.2.2.1.2.2.2.2.2.2.1,e58.2.1.2.2.1.2.2.2.2.2.2.2.1,e58.2.1.2.2.1.2.2.2.2.2.2.2.2.1⟩:uL),(([]:List uO)++e58.2.1.1.2.2.2.2.2.2.2.2.2.1)⟩:qg),())) none) none
def Fx[dE] :=EW 30 Tryz.f30 Sd UG (λx=>Fa x.1) [Qr] [VB] (by kernel_rfl) λx=>by simp only[Fa,tm];kernel_rfl
abbrev P9:LX:=⟨⟨[NX,Ng],[],[],0,19⟩,[(.ret,⟨[NX,M3],[],[],0,19⟩),(.ext 0,⟨[NX,O2],[],[],0,19⟩)],[],[0,3],[0,2]⟩
def HD(s:aak×Unit×Unit):P9.R:=
 br (decide (s.1.2.1< (s.1.1.length:Int))) (iteP (0<=s.1.2.1) ((s.1.1[s.1.2.1.toNat]?).bind λx3=>(Em x3 0 3).bind λy4=>br (!y4.1) (some (.inr (.inl ((s.1.1,false,()),(()),(()))))) (some (.inl ((s.1.1,(IntKind.wrap .i64 (s.1.2.1+1)),()),(()),(()))))) none) (some (.inr (.inr ((s.1.1,(),()),(()),(())))))
def NW:=nx HD
def UL[dE] :=Il Tryz.f122 [0] P9 HD [Fl] [] (by kernel_rfl) λs=>by simp only[HD,tm];kernel_rfl
def Fu(a0:List Int):Option (Bool×Unit):=
 (NW ((a0,0,()),(()),(()))).bind λe5=>Sum.elim (λe5_0=>some e5_0.1.2) (λe5_1=>some (((e5_1.1.1.length:Int)==5),())) e5
def NV[dE] :=EW 122 Tryz.f122 Wk [.b] (λx=>Fu x.1) [] [UL] (by kernel_rfl) λx=>by simp only[Fu,tm];kernel_rfl
abbrev OI:LX:=⟨⟨[NX,Ng],[],[],0,32⟩,[(.ret,⟨[M3],[],[],0,32⟩),(.ext 0,⟨[O2],[],[],0,32⟩)],[],[0,3],[2]⟩
def F7(s:aak×Unit×Unit):OI.R:=
 br (decide (s.1.2.1< (s.1.1.length:Int))) (iteP (0<=s.1.2.1) ((s.1.1[s.1.2.1.toNat]?).bind λx3=>(Em x3 0 4).bind λy4=>br (!y4.1) (some (.inr (.inl ((false,()),(()),(()))))) (br (decide (s.1.2.1>0)) (iteP (0<=(IntKind.wrap .i64 (s.1.2.1-1))) ((s.1.1[(IntKind.wrap .i64 (s.1.2.1-1)).toNat]?).bind λx5=>iteP (0<=s.1.2.1) ((s.1.1[s.1.2.1.toNat]?).bind λx6=>br (decide (x5≥x6)) (some (.inr (.inl ((false,()),(()),(()))))) (some (.inl ((s.1.1,(IntKind.wrap .i64 (s.1.2.1+1)),()),(()),(()))))) none) none) (some (.inl ((s.1.1,(IntKind.wrap .i64 (s.1.2.1+1)),()),(()),(())))))) none) (some (.inr (.inr (((),()),(()),(())))))
def Kq:=nx F7
def Sx[dE] :=Il Tryz.f243 [0] OI F7 [Fl] [] (by kernel_rfl) λs=>by simp only[F7,tm];kernel_rfl
def FJ(a0:List Int):Option (Bool×Unit):=
 (Kq ((a0,0,()),(()),(()))).bind λe7=>Sum.elim (λe7_0=>some e7_0.1) (λ_=>some (true,())) e7
def L3[dE] :=EW 243 Tryz.f243 Wk [.b] (λx=>FJ x.1) [] [Sx] (by kernel_rfl) λx=>by simp only[FJ,tm];kernel_rfl
abbrev Pk:LX:=⟨⟨[NX,Kz,NF],[],[],0,18⟩,[(.ret,⟨[TL],[],[],0,18⟩),(.ext 0,⟨[Ow],[],[],0,18⟩)],[],[0,1,5],[4]⟩
def IR(s:aal×Unit×Unit):Pk.R:=
 br (decide (s.1.2.2.1< (s.1.1.length:Int))) (iteP (0<=s.1.2.2.1) ((s.1.1[s.1.2.2.1.toNat]?).bind λx4=>br (x4==s.1.2.1) (some (.inr (.inl ((true,()),(()),(()))))) (some (.inl ((s.1.1,s.1.2.1,(IntKind.wrap .i64 (s.1.2.2.1+1)),()),(()),(()))))) none) (some (.inr (.inr (((),()),(()),(())))))
def Nf:=nx IR
def Tx[dE] :=Il Tryz.f194 [0] Pk IR [] [] (by kernel_rfl) λs=>by simp only[IR,tm];kernel_rfl
def Fi(a0:List Int)(a1:Int):Option (Bool×Unit):=
 (Nf ((a0,a1,0,()),(()),(()))).bind λe5=>Sum.elim (λe5_0=>some e5_0.1) (λ_=>some (false,())) e5
def G9[dE] :=EW 194 Tryz.f194 Vm [.b] (λx=>Fi x.1 x.2.1) [] [Tx] (by kernel_rfl) λx=>by simp only[Fi,tm];kernel_rfl
abbrev TR:LX:=⟨⟨[NX,Kz,NF],[],[],0,47⟩,[(.ext 0,⟨[NX,Kz,NF],[],[],0,47⟩)],[],[0,1,5],[0,1,5]⟩
def Jj(s:aal×Unit×Unit):TR.R:=
 br (decide (s.1.2.2.1< (s.1.1.length:Int))) (iteP (0<=s.1.2.2.1) ((s.1.1[s.1.2.2.1.toNat]?).bind λx4=>br (decide (x4<s.1.2.1)) (some (.inl ((s.1.1,s.1.2.1,(IntKind.wrap .i64 (s.1.2.2.1+1)),()),(()),(())))) (some (.inr (s.1,(()),(()))))) none) (some (.inr (s.1,(()),(()))))
def Qw:=nx Jj
def XD[dE] :=Il Tryz.f245 [0] TR Jj [] [] (by kernel_rfl) λs=>by simp only[Jj,tm];kernel_rfl
def I0(a0:List Int)(a1:Int):Option ((List Int)×Unit):=
 (Qw ((a0,a1,0,()),(()),(()))).bind λe5=>let j7:Option ((List Int)×Unit):=iteP (0<=(0:Int)/\(0:Int)<=e5.1.2.2.1/\e5.1.2.2.1<=(e5.1.1.length:Int)) (iteP ((([]:List Int)++((e5.1.1.drop (0:Int).toNat).take (e5.1.2.2.1.toNat-(0:Int).toNat))).length*8<=2 ^ 40) (iteP (((([]:List Int)++((e5.1.1.drop (0:Int).toNat).take (e5.1.2.2.1.toNat-(0:Int).toNat)))++([e5.1.2.1]:List Int)).length*8<=2 ^ 40) (iteP (0<=e5.1.2.2.1/\e5.1.2.2.1<=(e5.1.1.length:Int)/\(e5.1.1.length:Int)<=(e5.1.1.length:Int)) (iteP ((((([]:List Int)++((e5.1.1.drop (0:Int).toNat).take (e5.1.2.2.1.toNat-(0:Int).toNat)))++([e5.1.2.1]:List Int))++((e5.1.1.drop e5.1.2.2.1.toNat).take ((e5.1.1.length:Int).toNat-e5.1.2.2.1.toNat))).length*8<=2 ^ 40) (some ((((([]:List Int)++((e5.1.1.drop (0:Int).toNat).take (e5.1.2.2.1.toNat-(0:Int).toNat)))++([e5.1.2.1]:List Int))++((e5.1.1.drop e5.1.2.2.1.toNat).take ((e5.1.1.length:Int).toNat-e5.1.2.2.1.toNat))),())) none) none) none) none) none;br (decide (e5.1.2.2.1< (e5.1.1.length:Int))) (iteP (0<=e5.1.2.2.1) ((e5.1.1[e5.1.2.2.1.toNat]?).bind λx6=>br (x6==e5.1.2.1) (iteP ((([]:List Int)++e5.1.1).length*8<=2 ^ 40) (some ((([]:List Int)++e5.1.1),())) none) (j7)) none) (j7)
def OZ[dE] :=EW 245 Tryz.f245 Vm L7 (λx=>I0 x.1 x.2.1) [] [XD] (by kernel_rfl) λx=>by simp only[I0,tm];kernel_rfl
abbrev M5:LX:=⟨⟨[NX,P7,MA,M4],[],IB,0,27⟩,[(.ext 0,⟨[MA],[],IB,0,27⟩)],[],[0,1,5,6],[5]⟩
def GQ(s:aa2×Unit×List Int×Unit):M5.R:=
 br (decide (s.1.2.2.2.1< (s.1.1.length:Int))) (iteP (0<=s.1.2.2.2.1) ((s.1.1[s.1.2.2.2.1.toNat]?).bind λx5=>(Fi s.1.2.1 x5).bind λy6=>br y6.1 (iteP (0<=s.1.2.2.2.1) ((s.1.1[s.1.2.2.2.1.toNat]?).bind λx7=>(I0 s.2.2.1 x7).bind λy8=>some (.inl ((s.1.1,s.1.2.1,(),(IntKind.wrap .i64 (s.1.2.2.2.1+1)),()),(()),y8.1,()))) none) (some (.inl ((s.1.1,s.1.2.1,(),(IntKind.wrap .i64 (s.1.2.2.2.1+1)),()),(()),s.2.2)))) none) (some (.inr (((),()),(()),s.2.2)))
def M1:=nx GQ
def Qd[dE] :=Il Tryz.f244 [0] M5 GQ [G9,OZ] [] (by kernel_rfl) λs=>by simp only[GQ,tm];kernel_rfl
def GY(a0:List Int)(a1:List Int):Option ((List Int)×Unit):=
 (M1 ((a0,a1,(),0,()),(()),([]:List Int),())).bind λe10=>some e10.2.2
def Lz[dE] :=EW 244 Tryz.f244 UD L7 (λx=>GY x.1 x.2.1) [] [Qd] (by kernel_rfl) λx=>by simp only[GY,tm];kernel_rfl
def Ek(a0:nF):Option (Bool×Unit):=
 (Em a0.epoch 1 20).bind λy1=>br y1.1 ((FJ a0.replicas).bind λy2=>br y2.1 ((FJ a0.witnesses).bind λy3=>br y3.1 ((Fi a0.replicas a0.primary).bind λy4=>br y4.1 ((GY a0.replicas a0.witnesses).bind λy5=>some (((y5.1.length:Int)==0),())) (some (false,()))) (some (false,()))) (some (false,()))) (some (false,()))
def JI[dE] :=EW 191 Tryz.f191 Wl [.b] (λx=>Ek x.1) [Fl,L3,G9,Lz] [] (by kernel_rfl) λx=>by simp only[Ek,tm];kernel_rfl
abbrev N7:LX:=⟨⟨[Kt,Ng],[Wo],[],0,35⟩,[(.ret,⟨[Kt,M3],[Wo],[],0,35⟩),(.ext 0,⟨[Kt,O2],[Wo],[],0,35⟩)],[],[1,3],[1,2]⟩
def Fe(s:UF×(aa1×Unit)×Unit):N7.R:=
 br (decide (s.1.2.1< (s.2.1.1.1.length:Int))) (iteP (0<=s.1.2.1) ((s.2.1.1.1[s.1.2.1.toNat]?).bind λx4=>(Ek x4).bind λy5=>br (!y5.1) (some (.inr (.inl (((),false,()),s.2.1,(()))))) (iteP (0<=s.1.2.1) ((s.2.1.1.1[s.1.2.1.toNat]?).bind λx6=>br (!(x6.epoch==(IntKind.wrap .i64 (s.1.2.1+1)))) (some (.inr (.inl (((),false,()),s.2.1,(()))))) (some (.inl (((),(IntKind.wrap .i64 (s.1.2.1+1)),()),s.2.1,(()))))) none)) none) (some (.inr (.inr (((),(),()),s.2.1,(())))))
def IK:=nx Fe
def Rv[dE] :=Il Tryz.f123 [0] N7 Fe [JI] [] (by kernel_rfl) λs=>by simp only[Fe,tm];kernel_rfl
def Er(a0:jY):Option (Bool×Unit):=
 (IK (((),0,()),((a0.configs,a0.activated,()),()),(()))).bind λe7=>Sum.elim (λe7_0=>some e7_0.1.2) (λe7_1=>(Em e7_1.2.1.1.2.1 0 (e7_1.2.1.1.1.length:Int)).bind λy8=>some (y8.1,())) e7
def La[dE] :=EW 123 Tryz.f123 Vp [.b] (λx=>Er x.1) [Fl] [Rv] (by kernel_rfl) λx=>by simp only[Er,tm];kernel_rfl
def FR(a0:uL):Option (Bool×Unit):=
 br ((a0.epoch==0)&&((a0.holder==0)&&((a0.ends==0)&&true))) (some (true,())) ((Em a0.epoch 1 20).bind λy1=>br y1.1 ((Em a0.holder 0 4).bind λy2=>br y2.1 ((Em a0.ends 1 1049).bind λy3=>some (y3.1,())) (some (false,()))) (some (false,())))
def Nv[dE] :=EW 124 Tryz.f124 WM [.b] (λx=>FR x.1) [Fl] [] (by kernel_rfl) λx=>by simp only[FR,tm];kernel_rfl
def EN(a0:Op):Option (Bool×Unit):=
 (Em a0.client 0 2).bind λy1=>br (!y1.1) (some (false,())) ((Em a0.seq 1 99).bind λy2=>br (!y2.1) (some (false,())) ((Em a0.object 0 2).bind λy3=>br (!y3.1) (some (false,())) ((Em a0.value 0 9).bind λy4=>br (!y4.1) (some (false,())) (br (a0.kind==1) (br (a0.old==0) (some (true,())) (br (a0.kind==2) ((Em a0.old 0 9).bind λy5=>some (y5.1,())) (some (false,())))) (br (a0.kind==2) ((Em a0.old 0 9).bind λy6=>some (y6.1,())) (some (false,())))))))
def Lr[dE] :=EW 151 Tryz.f151 Vn [.b] (λx=>EN x.1) [Fl] [] (by kernel_rfl) λx=>by simp only[EN,tm];kernel_rfl
abbrev TQ:LX:=⟨⟨[MB,Ng],[],[],0,47⟩,[(.ret,⟨[MB,M3],[],[],0,47⟩),(.ext 0,⟨[MB,O2],[],[],0,47⟩)],[],[0,3],[0,2]⟩
def Ji(s:aam×Unit×Unit):TQ.R:=
 br (decide (s.1.2.1< (s.1.1.length:Int))) (iteP (0<=s.1.2.1) ((s.1.1[s.1.2.1.toNat]?).bind λx3=>(Em x3.epoch 1 20).bind λy4=>br (!y4.1) (some (.inr (.inl ((s.1.1,false,()),(()),(()))))) (iteP (0<=s.1.2.1) ((s.1.1[s.1.2.1.toNat]?).bind λx5=>(EN x5.op).bind λy6=>br (!y6.1) (some (.inr (.inl ((s.1.1,false,()),(()),(()))))) (br (decide (s.1.2.1>0)) (iteP (0<=(IntKind.wrap .i64 (s.1.2.1-1))) ((s.1.1[(IntKind.wrap .i64 (s.1.2.1-1)).toNat]?).bind λx7=>iteP (0<=s.1.2.1) ((s.1.1[s.1.2.1.toNat]?).bind λx8=>br (decide (x7.epoch>x8.epoch)) (some (.inr (.inl ((s.1.1,false,()),(()),(()))))) (some (.inl ((s.1.1,(IntKind.wrap .i64 (s.1.2.1+1)),()),(()),(()))))) none) none) (some (.inl ((s.1.1,(IntKind.wrap .i64 (s.1.2.1+1)),()),(()),(())))))) none)) none) (some (.inr (.inr ((s.1.1,(),()),(()),(())))))
def NA:=nx Ji
def XC[dE] :=Il Tryz.f135 [0] TQ Ji [Fl,Lr] [] (by kernel_rfl) λs=>by simp only[Ji,tm];kernel_rfl
def ET(a0:List rk):Option (Bool×Unit):=
 (NA ((a0,0,()),(()),(()))).bind λe9=>Sum.elim (λe9_0=>some e9_0.1.2) (λe9_1=>some ((decide ((e9_1.1.1.length:Int)<=16)),())) e9
def L4[dE] :=EW 135 Tryz.f135 P6 [.b] (λx=>ET x.1) [] [XC] (by kernel_rfl) λx=>by simp only[ET,tm];kernel_rfl
abbrev NI:LX:=⟨⟨[NX,P7,NF],[],[],0,26⟩,[(.ret,⟨[TL],[],[],0,26⟩),(.ext 0,⟨[Ow],[],[],0,26⟩)],[],[0,1,5],[4]⟩
def Ha(s: (List Int×List Int×Int×Unit)×Unit×Unit):NI.R:=
 br (decide (s.1.2.2.1< (s.1.1.length:Int))) (iteP (0<=s.1.2.2.1) ((s.1.1[s.1.2.2.1.toNat]?).bind λx4=>iteP (0<=s.1.2.2.1) ((s.1.2.1[s.1.2.2.1.toNat]?).bind λx5=>br (!(x4==x5)) (some (.inr (.inl ((false,()),(()),(()))))) (some (.inl ((s.1.1,s.1.2.1,(IntKind.wrap .i64 (s.1.2.2.1+1)),()),(()),(()))))) none) none) (some (.inr (.inr (((),()),(()),(())))))
def KT:=nx Ha
def QC[dE] :=Il Tryz.f192 [0] NI Ha [] [] (by kernel_rfl) λs=>by simp only[Ha,tm];kernel_rfl
def Ic(a0:List Int)(a1:List Int):Option (Bool×Unit):=
 br (!((a0.length:Int)==(a1.length:Int))) (some (false,())) ((KT ((a0,a1,0,()),(()),(()))).bind λe6=>Sum.elim (λe6_0=>some e6_0.1) (λ_=>some (true,())) e6)
def RX[dE] :=EW 192 Tryz.f192 UD [.b] (λx=>Ic x.1 x.2.1) [] [QC] (by kernel_rfl) λx=>by simp only[Ic,tm];kernel_rfl
def Gc(a0:nF)(a1:nF):Option (Bool×Unit):=
 br (a0.epoch==a1.epoch) (br (a0.primary==a1.primary) ((Ic a0.replicas a1.replicas).bind λy1=>br y1.1 ((Ic a0.witnesses a1.witnesses).bind λy2=>some (y2.1,())) (some (false,()))) (some (false,()))) (some (false,()))
def Kh[dE] :=EW 129 Tryz.f129 ZX [.b] (λx=>Gc x.1 x.2.1) [RX] [] (by kernel_rfl) λx=>by simp only[Gc,tm];kernel_rfl
def IV(a0:nF):Option (Bool×Unit):=
 (Gc a0 (⟨0,0,([]:List Int),([]:List Int)⟩:nF)).bind λy1=>some (y1.1,())
def OY[dE] :=EW 128 Tryz.f128 Wl [.b] (λx=>IV x.1) [Kh] [] (by kernel_rfl) λx=>by simp only[IV,tm];kernel_rfl
def Hh(a0:List rk):Option (Int×Unit):=
 br ((a0.length:Int)==0) (some (0,())) (iteP (0<=(IntKind.wrap .i64 ((a0.length:Int)-1))) ((a0[(IntKind.wrap .i64 ((a0.length:Int)-1)).toNat]?).bind λx1=>some (x1.epoch,())) none)
def Qt[dE] :=EW 127 Tryz.f127 P6 JR (λx=>Hh x.1) [] [] (by kernel_rfl) λx=>by simp only[Hh,tm];kernel_rfl
def EP(a0:nF)(a1:Int):Option (Int×Unit):=
 (Ek a0).bind λy1=>br (!y1.1) (some (0,())) (br (a1==a0.primary) (some (1,())) ((Fi a0.replicas a1).bind λy2=>br y2.1 (some (2,())) ((Fi a0.witnesses a1).bind λy3=>br y3.1 (some (3,())) (some (0,())))))
def Nx[dE] :=EW 138 Tryz.f138 ZY JR (λx=>EP x.1 x.2.1) [JI,G9] [] (by kernel_rfl) λx=>by simp only[EP,tm];kernel_rfl
def Eh(a0:qj)(a1:Int):Option (Bool×Unit):=
 (Em a0.version 1 2).bind λy1=>br (!y1.1) (some (false,())) ((Em a0.epoch 0 20).bind λy2=>br (!y2.1) (some (false,())) ((ET a0.log).bind λy3=>br (!y3.1) (some (false,())) ((ET a0.learned).bind λy4=>br (!y4.1) (some (false,())) ((Em a0.first 0 16).bind λy5=>br (!y5.1) (some (false,())) ((Em (IntKind.wrap .i64 (a0.first+(a0.log.length:Int))) 0 16).bind λy6=>br (!y6.1) (some (false,())) ((Em a0.commit 0 (IntKind.wrap .i64 (a0.first+(a0.log.length:Int)))).bind λy7=>br (!y7.1) (some (false,())) ((IV a0.config).bind λy8=>br y8.1 (br (a0.first==0) (br ((a0.log.length:Int)==0) (some ((a0.commit==0),())) (some (false,()))) (some (false,()))) (br (!a0.intact) (some (false,())) (br (decide (a0.epoch<a0.config.epoch)) (some (false,())) ((Hh a0.log).bind λy9=>br (decide (y9.1>a0.config.epoch)) (some (false,())) ((EP a0.config a1).bind λy10=>br (y10.1==0) (some (false,())) (br (y10.1==3) (br (decide ((a0.log.length:Int)<=3)) (br ((a0.log.length:Int)==3) (some (true,())) (some ((a0.first==0),()))) (some (false,()))) (some ((a0.first==0),()))))))))))))))
def N0[dE] :=EW 126 Tryz.f126 UE [.b] (λx=>Eh x.1 x.2.1) [Fl,L4,OY,Qt,Nx] [] (by kernel_rfl) λx=>by simp only[Eh,tm];kernel_rfl
def Fz(a0:jY)(a1:Int):Option (nF×Bool×Unit):=
 (Er a0).bind λy1=>br (!y1.1) (some ((⟨0,0,([]:List Int),([]:List Int)⟩:nF),false,())) ((Em a1 1 (a0.configs.length:Int)).bind λy2=>br (!y2.1) (some ((⟨0,0,([]:List Int),([]:List Int)⟩:nF),false,())) (iteP (0<=(IntKind.wrap .i64 (a1-1))) ((a0.configs[(IntKind.wrap .i64 (a1-1)).toNat]?).bind λx3=>(Hk x3).bind λy4=>some (y4.1,true,())) none))
def Py[dE] :=EW 62 Tryz.f62 WN Wn (λx=>Fz x.1 x.2.1) [La,Fl,Om] [] (by kernel_rfl) λx=>by simp only[Fz,tm];kernel_rfl
abbrev MF:LX:=⟨⟨[Kt,Ng],[JA],[],0,123⟩,[(.ret,⟨[M3],[],[],0,123⟩),(.ext 0,⟨[O2],[],[],0,123⟩)],[],[1,3],[2]⟩
def El(s:UF×(MT×Unit)×Unit):MF.R:=
 br (decide (s.1.2.1< (s.2.1.1.2.1.length:Int))) (iteP (0<=s.1.2.1) ((s.2.1.1.2.1[s.1.2.1.toNat]?).bind λx18=>(Eh x18 s.1.2.1).bind λy19=>br (!y19.1) (some (.inr (.inl ((false,()),(()),(()))))) (br (decide (x18.epoch>(s.2.1.1.2.2.2.1.length:Int))) (some (.inr (.inl ((false,()),(()),(()))))) ((Hh x18.learned).bind λy20=>br (decide (y20.1>s.2.1.1.2.2.2.2.1)) (some (.inr (.inl ((false,()),(()),(()))))) ((Fz (⟨s.2.1.1.2.2.2.1,s.2.1.1.2.2.2.2.1⟩:jY) x18.config.epoch).bind λy21=>(IV x18.config).bind λy22=>br (!y22.1) (br (!y21.2.1) (some (.inr (.inl ((false,()),(()),(()))))) ((Gc y21.1 x18.config).bind λy23=>br (!y23.1) (some (.inr (.inl ((false,()),(()),(()))))) (br (decide (x18.config.epoch>s.2.1.1.2.2.2.2.1)) (some (.inr (.inl ((false,()),(()),(()))))) (some (.inl (((),(IntKind.wrap .i64 (s.1.2.1+1)),()),s.2.1,(()))))))) (some (.inl (((),(IntKind.wrap .i64 (s.1.2.1+1)),()),s.2.1,(())))))))) none) (some (.inr (.inr (((),()),(()),(())))))
def GF:=nx El
def PE[dE] :=Il Tryz.f56 [0] MF El [N0,Qt,Py,OY,Kh] [] (by kernel_rfl) λs=>by simp only[El,tm];kernel_rfl
def Ee(a0:qg):Option (Bool×Unit):=
 (Em a0.now 0 999).bind λy1=>br (!y1.1) (some (false,())) (br (!((a0.servers.length:Int)==5)) (some (false,())) ((Fu a0.sides).bind λy2=>br (!y2.1) (some (false,())) ((Er a0.master).bind λy3=>br (!y3.1) (some (false,())) ((Em a0.masterUp 0 3).bind λy4=>br (!y4.1) (some (false,())) ((FR a0.lease).bind λy5=>br (!y5.1) (some (false,())) ((Fb a0.places).bind λy6=>br (!y6.1) (some (false,())) (br (decide (a0.lease.epoch>a0.master.activated)) (some (false,())) ((GF (((),0,()),((a0.now,a0.servers,a0.sides,a0.master.configs,a0.master.activated,a0.masterUp,a0.lease.epoch,a0.lease.holder,a0.lease.ends,a0.places,()),()),(()))).bind λe24=>Sum.elim (λe24_0=>some e24_0.1) (λ_=>some (true,())) e24))))))))
def Et[dE] :=EW 56 Tryz.f56 Sd [.b] (λx=>Ee x.1) [Fl,NV,La,Nv,Lq] [PE] (by kernel_rfl) λx=>by simp only[Ee,tm];kernel_rfl
def Nu(a0:Int):Option (Bool×Bool×Bool×Unit):=
 br (a0==1) (some (true,false,false,())) (let j5 (p1:Bool):Option (Bool×Bool×Bool×Unit):=br p1 (some (true,false,false,())) (let j4 (p2:Bool):Option (Bool×Bool×Bool×Unit):=br p2 (some (true,false,true,())) (br (a0==4) (some (false,true,true,())) (br (a0==10) (some (false,false,true,())) (br (a0==11) (some (false,false,true,())) (br (a0==12) (some (true,true,true,())) (br (a0==16) (some (false,true,true,())) (some (false,false,false,())))))));br (a0==2) (j4 true) (br (a0==3) (j4 true) (j4 (a0==9))));br (a0==6) (j5 true) (br (a0==7) (j5 true) (br (a0==8) (j5 true) (br (a0==13) (j5 true) (br (a0==14) (j5 true) (j5 (a0==15)))))))
def Xt[dE] :=EW 163 Tryz.f163 Vo [.b,.b,.b] (λx=>Nu x.1) [] [] (by kernel_rfl) λx=>by simp only[Nu,tm];kernel_rfl
def I8(a0:wN):Option (Bool×Unit):=
 (Em a0.kind 1 16).bind λy1=>br (!y1.1) (some (false,())) ((Em a0.server 0 4).bind λy2=>br (!y2.1) (some (false,())) ((Em a0.other 0 4).bind λy3=>br (!y3.1) (some (false,())) ((Em a0.n 0 999).bind λy4=>br (!y4.1) (some (false,())) ((Nu a0.kind).bind λy5=>let j7:Option (Bool×Unit):=br (a0.kind==1) ((EN a0.op).bind λy6=>some (y6.1,())) (some (((a0.op.client==0)&&((a0.op.seq==0)&&((a0.op.kind==0)&&((a0.op.object==0)&&((a0.op.old==0)&&((a0.op.value==0)&&true)))))),()));br (!y5.1) (br (!(a0.server==0)) (some (false,())) (br (!y5.2.1) (br (!(a0.other==0)) (some (false,())) (br (!y5.2.2.1) (br (!(a0.n==0)) (some (false,())) (j7)) (j7))) (br (!y5.2.2.1) (br (!(a0.n==0)) (some (false,())) (j7)) (j7)))) (br (!y5.2.1) (br (!(a0.other==0)) (some (false,())) (br (!y5.2.2.1) (br (!(a0.n==0)) (some (false,())) (j7)) (j7))) (br (!y5.2.2.1) (br (!(a0.n==0)) (some (false,())) (j7)) (j7)))))))
def RY[dE] :=EW 98 Tryz.f98 [.ty (.st .event)] [.b] (λx=>I8 x.1) [Fl,Xt,Lr] [] (by kernel_rfl) λx=>by simp only[I8,tm];kernel_rfl
def Ew(a0:qj)(a1:Int):Option (Bool×Unit):=
 (Eh a0 a1).bind λy1=>br y1.1 (br a0.up ((EP a0.config a1).bind λy2=>br (y2.1==1) (some ((a0.epoch==a0.config.epoch),())) (some (false,()))) (some (false,()))) (some (false,()))
def Jd[dE] :=EW 152 Tryz.f152 UE [.b] (λx=>Ew x.1 x.2.1) [N0,Nx] [] (by kernel_rfl) λx=>by simp only[Ew,tm];kernel_rfl
abbrev Sl:LX:=⟨⟨[MB,Kz,Pb,OA],[],[],0,33⟩,[(.ret,⟨[M4],[],[],0,33⟩),(.ext 0,⟨[(6,.cl (.dead))],[],[],0,33⟩)],[],[0,1,2,7],[6]⟩
def JJ(s: (List rk×Int×Int×Int×Unit)×Unit×Unit):Sl.R:=
 br (decide (s.1.2.2.2.1< (s.1.1.length:Int))) (iteP (0<=s.1.2.2.2.1) ((s.1.1[s.1.2.2.2.1.toNat]?).bind λx5=>br (x5.op.client==s.1.2.1) (iteP (0<=s.1.2.2.2.1) ((s.1.1[s.1.2.2.2.1.toNat]?).bind λx6=>br (x6.op.seq==s.1.2.2.1) (some (.inr (.inl (s.1.2.2.2,(()),(()))))) (some (.inl ((s.1.1,s.1.2.1,s.1.2.2.1,(IntKind.wrap .i64 (s.1.2.2.2.1+1)),()),(()),(()))))) none) (some (.inl ((s.1.1,s.1.2.1,s.1.2.2.1,(IntKind.wrap .i64 (s.1.2.2.2.1+1)),()),(()),(()))))) none) (some (.inr (.inr (((),()),(()),(())))))
def Wj:=nx JJ
def Wx[dE] :=Il Tryz.f89 [0] Sl JJ [] [] (by kernel_rfl) λs=>by simp only[JJ,tm];kernel_rfl
def Lh(a0:List rk)(a1:Int)(a2:Int):Option (Int×Unit):=
 (Wj ((a0,a1,a2,0,()),(()),(()))).bind λe7=>Sum.elim (λe7_0=>some e7_0.1) (λ_=>some ((-1),())) e7
def U8[dE] :=EW 89 Tryz.f89 ZZ JR (λx=>Lh x.1 x.2.1 x.2.2.1) [] [Wx] (by kernel_rfl) λx=>by simp only[Lh,tm];kernel_rfl
def LV:Option (nq×Unit):=
 some ((⟨([0,0,0]:List Int),([]:List nr)⟩:nq),())
def Us[dE] :=EW 210 Tryz.f210 [] [.st .machine] (λ_=>LV) [] [] (by kernel_rfl) λx=>by simp only[LV,tm];kernel_rfl
def Oe(a0:nq):Option (nq×Unit):=
 iteP ((([]:List Int)++a0.objects).length*8<=2 ^ 40) (iteP ((([]:List nr)++a0.sessions).length*32<=2 ^ 40) (some ((⟨(([]:List Int)++a0.objects),(([]:List nr)++a0.sessions)⟩:nq),())) none) none
def Ya[dE] :=EW 211 Tryz.f211 [.ty (.st .machine)] [.st .machine] (λx=>Oe x.1) [] [] (by kernel_rfl) λx=>by simp only[Oe,tm];kernel_rfl
abbrev MG:LX:=⟨⟨[Kt,Ng],[Wq],[],0,69⟩,[(.ret,⟨[Kt,M3],[Wq],[],0,69⟩),(.ext 0,⟨[Kt,O2],[Wq],[],0,69⟩)],[],[1,3],[1,2]⟩
def FY(s:UF×(aa3×Unit)×Unit):MG.R:=
 br (decide (s.1.2.1< (s.2.1.1.1.length:Int))) (iteP (0<=s.1.2.1) ((s.2.1.1.1[s.1.2.1.toNat]?).bind λx4=>(Em x4 0 9).bind λy5=>br (!y5.1) (some (.inr (.inl (((),false,()),s.2.1,(()))))) (some (.inl (((),(IntKind.wrap .i64 (s.1.2.1+1)),()),s.2.1,(()))))) none) (some (.inr (.inr (((),(),()),s.2.1,(())))))
def Mv:=nx FY
def PF[dE] :=Il Tryz.f212 [0] MG FY [Fl] [] (by kernel_rfl) λs=>by simp only[FY,tm];kernel_rfl
abbrev MH:LX:=⟨⟨[Kt,Oz],[Wq],[],0,69⟩,[(.ret,⟨[Kt,M3],[Wq],[],0,69⟩),(.ext 2,⟨[Kt,O2],[Wq],[],0,69⟩)],[],[1,4],[1,2]⟩
def FZ(s:UF×(aa3×Unit)×Unit):MH.R:=
 br (decide (s.1.2.1< (s.2.1.1.2.1.length:Int))) (iteP (0<=s.1.2.1) ((s.2.1.1.2.1[s.1.2.1.toNat]?).bind λx10=>(Em x10.client 0 2).bind λy11=>br (!y11.1) (some (.inr (.inl (((),false,()),s.2.1,(()))))) ((Em x10.seq 1 99).bind λy12=>br (!y12.1) (some (.inr (.inl (((),false,()),s.2.1,(()))))) ((Em x10.result.value 0 9).bind λy13=>br (!y13.1) (some (.inr (.inl (((),false,()),s.2.1,(()))))) (br (decide (s.1.2.1>0)) (iteP (0<=(IntKind.wrap .i64 (s.1.2.1-1))) ((s.2.1.1.2.1[(IntKind.wrap .i64 (s.1.2.1-1)).toNat]?).bind λx14=>br (decide (x14.client≥x10.client)) (some (.inr (.inl (((),false,()),s.2.1,(()))))) (some (.inl (((),(IntKind.wrap .i64 (s.1.2.1+1)),()),s.2.1,(()))))) none) (some (.inl (((),(IntKind.wrap .i64 (s.1.2.1+1)),()),s.2.1,(())))))))) none) (some (.inr (.inr (((),(),()),s.2.1,(())))))
def JQ:=nx FZ
def PG[dE] :=Il Tryz.f212 [1] MH FZ [Fl] [] (by kernel_rfl) λs=>by simp only[FZ,tm];kernel_rfl
def F2(a0:nq):Option (Bool×Unit):=
 (Mv (((),0,()),((a0.objects,a0.sessions,()),()),(()))).bind λe6=>Sum.elim (λe6_0=>some e6_0.1.2) (λe6_1=>(JQ (((),0,()),e6_1.2.1,(()))).bind λe15=>Sum.elim (λe15_0=>some e15_0.1.2) (λe15_1=>some (((e15_1.2.1.1.1.length:Int)==3),())) e15) e6
def Nw[dE] :=EW 212 Tryz.f212 [.ty (.st .machine)] [.b] (λx=>F2 x.1) [] [PF,PG] (by kernel_rfl) λx=>by simp only[F2,tm];kernel_rfl
abbrev Po:LX:=⟨⟨[Kz,MS,QV,M4],[Wq,Yt],[],0,28⟩,[(.ret,⟨[Pc,(5,.cl (.bl))],[Yt],[],0,28⟩),(.ext 0,⟨[Pc,(5,.cl (.dead))],[Yt],[],0,28⟩)],[],[1,2,4,6],[4,5]⟩
def F3(s: (Int×Unit×Unit×Int×Unit)×(aa3×(Int×Int×Bool×Int×Unit)×Unit)×Unit):Po.R:=
 br (decide (s.1.2.2.2.1< (s.2.1.1.2.1.length:Int))) (iteP (0<=s.1.2.2.2.1) ((s.2.1.1.2.1[s.1.2.2.2.1.toNat]?).bind λx9=>br (x9.client==s.1.1) (iteP (0<=s.1.2.2.2.1) ((s.2.1.1.2.1[s.1.2.2.2.1.toNat]?).bind λx10=>some (.inr (.inl (((),true,()),((x10.client,x10.seq,x10.result.done,x10.result.value,()),()),(()))))) none) (some (.inl ((s.1.1,(),(),(IntKind.wrap .i64 (s.1.2.2.2.1+1)),()),s.2.1,(()))))) none) (some (.inr (.inr (((),(),()),s.2.1.2,(())))))
def Lc:=nx F3
def TC[dE] :=Il Tryz.f213 [0] Po F3 [] [] (by kernel_rfl) λs=>by simp only[F3,tm];kernel_rfl
def G8(a0:nq)(a1:Int):Option (nr×Bool×Unit):=
 (Lc ((a1,(),(),0,()),((a0.objects,a0.sessions,()),(0,0,false,0,()),()),(()))).bind λe11=>Sum.elim (λe11_0=>some ((⟨e11_0.2.1.1.1,e11_0.2.1.1.2.1,(⟨e11_0.2.1.1.2.2.1,e11_0.2.1.1.2.2.2.1⟩:Result)⟩:nr),e11_0.1.2)) (λ_=>some ((⟨0,0,(⟨false,0⟩:Result)⟩:nr),false,())) e11
def Ve[dE] :=EW 213 Tryz.f213 Z0 [.st .session,.b] (λx=>G8 x.1 x.2.1) [] [TC] (by kernel_rfl) λx=>by simp only[G8,tm];kernel_rfl
abbrev P8:LX:=⟨⟨[QW,QV,(5,.cl (.ptr 2 0)),Ye,Pd,(11,.cl (.ptr 4 0)),Pe],[aaw,[.em,.em],WV,WW,WV],Zy,0,127⟩,[(.ext 0,⟨[QW,QV,(5,.cl (.ptr 2 0)),Ye,Pd,(11,.cl (.ptr 4 0)),Pe],[aaw,[.em,.em],WV,WW,WV],Zy,0,127⟩)],[],[3,4,5,7,9,11,12],[3,4,5,7,9,11,12]⟩
def Jh(s: (Unit×Unit×Unit×Unit×Bool×Unit×Int×Unit)×((Int×Int×Int×Int×Int×Int×Unit)×Zs×(Bool×Int×Unit)×Zs×(Bool×Int×Unit)×Unit)×List Int×List nr×Unit):P8.R:=
 br (decide (s.1.2.2.2.2.2.2.1< (s.2.2.2.1.length:Int))) (iteP (0<=s.1.2.2.2.2.2.2.1/\s.1.2.2.2.2.2.2.1< (s.2.2.2.1.length:Int)) ((s.2.2.2.1[s.1.2.2.2.2.2.2.1.toNat]?).bind λx22=>br (decide (x22.client<s.2.1.1.1)) (some (.inl (((),(),(),(),s.1.2.2.2.2.1,(),(IntKind.wrap .i64 (s.1.2.2.2.2.2.2.1+1)),()),s.2))) (some (.inr s))) none) (some (.inr s))
def L6:=nx Jh
def UK[dE] :=Il Tryz.f154 [0] P8 Jh [] [] (by kernel_rfl) λs=>by simp only[Jh,tm];kernel_rfl
def KI(a0:nq)(a1:Op):Option (nq×Result×Bool×Unit):=
 (Oe a0).bind λy1=>(F2 a0).bind λy2=>br (!y2.1) (some (y1.1,(⟨false,0⟩:Result),false,())) ((EN a1).bind λy3=>br (!y3.1) (some (y1.1,(⟨false,0⟩:Result),false,())) ((G8 a0 a1.client).bind λy4=>let j45:Option (nq×Result×Bool×Unit):=let j44:Option (nq×Result×Bool×Unit):=iteP (0<=a1.object) ((a0.objects[a1.object.toNat]?).bind λx5=>br (a1.kind==1) (iteP (0<=a1.object/\a1.object< (y1.1.objects.length:Int)) ((y1.1.objects[a1.object.toNat]?).bind λ_=>(L6 (((),(),(),(),y4.2.1,(),0,()),((a1.client,a1.seq,a1.kind,a1.object,a1.old,a1.value,()),((),(),()),(false,0,()),((),(),()),(true,x5,()),()),(y1.1.objects.set a1.object.toNat a1.value),y1.1.sessions,())).bind λe23=>iteP (0<=e23.1.2.2.2.2.2.2.1/\e23.1.2.2.2.2.2.2.1<=(e23.2.2.2.1.length:Int)/\(e23.2.2.2.1.length:Int)<=((e23.2.2.2.1.length:Nat):Int)) (br e23.1.2.2.2.2.1 (iteP (0<=(IntKind.wrap .i64 (e23.1.2.2.2.2.2.2.1+1))/\(IntKind.wrap .i64 (e23.1.2.2.2.2.2.2.1+1))<=(e23.2.2.2.1.length:Int)/\(e23.2.2.2.1.length:Int)<=((e23.2.2.2.1.length:Nat):Int)) (iteP (0<=(0:Int)/\(0:Int)<=e23.1.2.2.2.2.2.2.1/\e23.1.2.2.2.2.2.2.1<=((e23.2.2.2.1.length:Nat):Int)) (iteP ((0+(0:Int).toNat)+(e23.1.2.2.2.2.2.2.1.toNat-(0:Int).toNat)<=e23.2.2.2.1.length) (iteP ((([]:List nr)++((e23.2.2.2.1.drop (0+(0:Int).toNat)).take (e23.1.2.2.2.2.2.2.1.toNat-(0:Int).toNat))).length*32<=2 ^ 40) (iteP (((([]:List nr)++((e23.2.2.2.1.drop (0+(0:Int).toNat)).take (e23.1.2.2.2.2.2.2.1.toNat-(0:Int).toNat)))++([(⟨e23.2.1.1.1,e23.2.1.1.2.1,(⟨e23.2.1.2.2.2.2.1.1,e23.2.1.2.2.2.2.1.2.1⟩:Result)⟩:nr)]:List nr)).length*32<=2 ^ 40) (iteP ((0+(IntKind.wrap .i64 (e23.1.2.2.2.2.2.2.1+1)).toNat)+((e23.2.2.2.1.length:Int).toNat-(IntKind.wrap .i64 (e23.1.2.2.2.2.2.2.1+1)).toNat)<=e23.2.2.2.1.length) (iteP ((((([]:List nr)++((e23.2.2.2.1.drop (0+(0:Int).toNat)).take (e23.1.2.2.2.2.2.2.1.toNat-(0:Int).toNat)))++([(⟨e23.2.1.1.1,e23.2.1.1.2.1,(⟨e23.2.1.2.2.2.2.1.1,e23.2.1.2.2.2.2.1.2.1⟩:Result)⟩:nr)]:List nr))++((e23.2.2.2.1.drop (0+(IntKind.wrap .i64 (e23.1.2.2.2.2.2.2.1+1)).toNat)).take ((e23.2.2.2.1.length:Int).toNat-(IntKind.wrap .i64 (e23.1.2.2.2.2.2.2.1+1)).toNat))).length*32<=2 ^ 40) (some ((⟨e23.2.2.1,(((([]:List nr)++((e23.2.2.2.1.drop (0+(0:Int).toNat)).take (e23.1.2.2.2.2.2.2.1.toNat-(0:Int).toNat)))++([(⟨e23.2.1.1.1,e23.2.1.1.2.1,(⟨e23.2.1.2.2.2.2.1.1,e23.2.1.2.2.2.2.1.2.1⟩:Result)⟩:nr)]:List nr))++((e23.2.2.2.1.drop (0+(IntKind.wrap .i64 (e23.1.2.2.2.2.2.2.1+1)).toNat)).take ((e23.2.2.2.1.length:Int).toNat-(IntKind.wrap .i64 (e23.1.2.2.2.2.2.2.1+1)).toNat)))⟩:nq),(⟨e23.2.1.2.2.2.2.1.1,e23.2.1.2.2.2.2.1.2.1⟩:Result),true,())) none) none) none) none) none) none) none) (iteP (0<=(0:Int)/\(0:Int)<=e23.1.2.2.2.2.2.2.1/\e23.1.2.2.2.2.2.2.1<=((e23.2.2.2.1.length:Nat):Int)) (iteP ((0+(0:Int).toNat)+(e23.1.2.2.2.2.2.2.1.toNat-(0:Int).toNat)<=e23.2.2.2.1.length) (iteP ((([]:List nr)++((e23.2.2.2.1.drop (0+(0:Int).toNat)).take (e23.1.2.2.2.2.2.2.1.toNat-(0:Int).toNat))).length*32<=2 ^ 40) (iteP (((([]:List nr)++((e23.2.2.2.1.drop (0+(0:Int).toNat)).take (e23.1.2.2.2.2.2.2.1.toNat-(0:Int).toNat)))++([(⟨e23.2.1.1.1,e23.2.1.1.2.1,(⟨e23.2.1.2.2.2.2.1.1,e23.2.1.2.2.2.2.1.2.1⟩:Result)⟩:nr)]:List nr)).length*32<=2 ^ 40) (iteP ((0+e23.1.2.2.2.2.2.2.1.toNat)+((e23.2.2.2.1.length:Int).toNat-e23.1.2.2.2.2.2.2.1.toNat)<=e23.2.2.2.1.length) (iteP ((((([]:List nr)++((e23.2.2.2.1.drop (0+(0:Int).toNat)).take (e23.1.2.2.2.2.2.2.1.toNat-(0:Int).toNat)))++([(⟨e23.2.1.1.1,e23.2.1.1.2.1,(⟨e23.2.1.2.2.2.2.1.1,e23.2.1.2.2.2.2.1.2.1⟩:Result)⟩:nr)]:List nr))++((e23.2.2.2.1.drop (0+e23.1.2.2.2.2.2.2.1.toNat)).take ((e23.2.2.2.1.length:Int).toNat-e23.1.2.2.2.2.2.2.1.toNat))).length*32<=2 ^ 40) (some ((⟨e23.2.2.1,(((([]:List nr)++((e23.2.2.2.1.drop (0+(0:Int).toNat)).take (e23.1.2.2.2.2.2.2.1.toNat-(0:Int).toNat)))++([(⟨e23.2.1.1.1,e23.2.1.1.2.1,(⟨e23.2.1.2.2.2.2.1.1,e23.2.1.2.2.2.2.1.2.1⟩:Result)⟩:nr)]:List nr))++((e23.2.2.2.1.drop (0+e23.1.2.2.2.2.2.2.1.toNat)).take ((e23.2.2.2.1.length:Int).toNat-e23.1.2.2.2.2.2.2.1.toNat)))⟩:nq),(⟨e23.2.1.2.2.2.2.1.1,e23.2.1.2.2.2.2.1.2.1⟩:Result),true,())) none) none) none) none) none) none)) none) none) (let j43 (p26:List Int):Option (nq×Result×Bool×Unit):=(L6 (((),(),(),(),y4.2.1,(),0,()),((a1.client,a1.seq,a1.kind,a1.object,a1.old,a1.value,()),((),(),()),(false,0,()),((),(),()),((x5==a1.old),x5,()),()),p26,y1.1.sessions,())).bind λe42=>iteP (0<=e42.1.2.2.2.2.2.2.1/\e42.1.2.2.2.2.2.2.1<=(e42.2.2.2.1.length:Int)/\(e42.2.2.2.1.length:Int)<=((e42.2.2.2.1.length:Nat):Int)) (br e42.1.2.2.2.2.1 (iteP (0<=(IntKind.wrap .i64 (e42.1.2.2.2.2.2.2.1+1))/\(IntKind.wrap .i64 (e42.1.2.2.2.2.2.2.1+1))<=(e42.2.2.2.1.length:Int)/\(e42.2.2.2.1.length:Int)<=((e42.2.2.2.1.length:Nat):Int)) (iteP (0<=(0:Int)/\(0:Int)<=e42.1.2.2.2.2.2.2.1/\e42.1.2.2.2.2.2.2.1<=((e42.2.2.2.1.length:Nat):Int)) (iteP ((0+(0:Int).toNat)+(e42.1.2.2.2.2.2.2.1.toNat-(0:Int).toNat)<=e42.2.2.2.1.length) (iteP ((([]:List nr)++((e42.2.2.2.1.drop (0+(0:Int).toNat)).take (e42.1.2.2.2.2.2.2.1.toNat-(0:Int).toNat))).length*32<=2 ^ 40) (iteP (((([]:List nr)++((e42.2.2.2.1.drop (0+(0:Int).toNat)).take (e42.1.2.2.2.2.2.2.1.toNat-(0:Int).toNat)))++([(⟨e42.2.1.1.1,e42.2.1.1.2.1,(⟨e42.2.1.2.2.2.2.1.1,e42.2.1.2.2.2.2.1.2.1⟩:Result)⟩:nr)]:List nr)).length*32<=2 ^ 40) (iteP ((0+(IntKind.wrap .i64 (e42.1.2.2.2.2.2.2.1+1)).toNat)+((e42.2.2.2.1.length:Int).toNat-(IntKind.wrap .i64 (e42.1.2.2.2.2.2.2.1+1)).toNat)<=e42.2.2.2.1.length) (iteP ((((([]:List nr)++((e42.2.2.2.1.drop (0+(0:Int).toNat)).take (e42.1.2.2.2.2.2.2.1.toNat-(0:Int).toNat)))++([(⟨e42.2.1.1.1,e42.2.1.1.2.1,(⟨e42.2.1.2.2.2.2.1.1,e42.2.1.2.2.2.2.1.2.1⟩:Result)⟩:nr)]:List nr))++((e42.2.2.2.1.drop (0+(IntKind.wrap .i64 (e42.1.2.2.2.2.2.2.1+1)).toNat)).take ((e42.2.2.2.1.length:Int).toNat-(IntKind.wrap .i64 (e42.1.2.2.2.2.2.2.1+1)).toNat))).length*32<=2 ^ 40) (some ((⟨e42.2.2.1,(((([]:List nr)++((e42.2.2.2.1.drop (0+(0:Int).toNat)).take (e42.1.2.2.2.2.2.2.1.toNat-(0:Int).toNat)))++([(⟨e42.2.1.1.1,e42.2.1.1.2.1,(⟨e42.2.1.2.2.2.2.1.1,e42.2.1.2.2.2.2.1.2.1⟩:Result)⟩:nr)]:List nr))++((e42.2.2.2.1.drop (0+(IntKind.wrap .i64 (e42.1.2.2.2.2.2.2.1+1)).toNat)).take ((e42.2.2.2.1.length:Int).toNat-(IntKind.wrap .i64 (e42.1.2.2.2.2.2.2.1+1)).toNat)))⟩:nq),(⟨e42.2.1.2.2.2.2.1.1,e42.2.1.2.2.2.2.1.2.1⟩:Result),true,())) none) none) none) none) none) none) none) (iteP (0<=(0:Int)/\(0:Int)<=e42.1.2.2.2.2.2.2.1/\e42.1.2.2.2.2.2.2.1<=((e42.2.2.2.1.length:Nat):Int)) (iteP ((0+(0:Int).toNat)+(e42.1.2.2.2.2.2.2.1.toNat-(0:Int).toNat)<=e42.2.2.2.1.length) (iteP ((([]:List nr)++((e42.2.2.2.1.drop (0+(0:Int).toNat)).take (e42.1.2.2.2.2.2.2.1.toNat-(0:Int).toNat))).length*32<=2 ^ 40) (iteP (((([]:List nr)++((e42.2.2.2.1.drop (0+(0:Int).toNat)).take (e42.1.2.2.2.2.2.2.1.toNat-(0:Int).toNat)))++([(⟨e42.2.1.1.1,e42.2.1.1.2.1,(⟨e42.2.1.2.2.2.2.1.1,e42.2.1.2.2.2.2.1.2.1⟩:Result)⟩:nr)]:List nr)).length*32<=2 ^ 40) (iteP ((0+e42.1.2.2.2.2.2.2.1.toNat)+((e42.2.2.2.1.length:Int).toNat-e42.1.2.2.2.2.2.2.1.toNat)<=e42.2.2.2.1.length) (iteP ((((([]:List nr)++((e42.2.2.2.1.drop (0+(0:Int).toNat)).take (e42.1.2.2.2.2.2.2.1.toNat-(0:Int).toNat)))++([(⟨e42.2.1.1.1,e42.2.1.1.2.1,(⟨e42.2.1.2.2.2.2.1.1,e42.2.1.2.2.2.2.1.2.1⟩:Result)⟩:nr)]:List nr))++((e42.2.2.2.1.drop (0+e42.1.2.2.2.2.2.2.1.toNat)).take ((e42.2.2.2.1.length:Int).toNat-e42.1.2.2.2.2.2.2.1.toNat))).length*32<=2 ^ 40) (some ((⟨e42.2.2.1,(((([]:List nr)++((e42.2.2.2.1.drop (0+(0:Int).toNat)).take (e42.1.2.2.2.2.2.2.1.toNat-(0:Int).toNat)))++([(⟨e42.2.1.1.1,e42.2.1.1.2.1,(⟨e42.2.1.2.2.2.2.1.1,e42.2.1.2.2.2.2.1.2.1⟩:Result)⟩:nr)]:List nr))++((e42.2.2.2.1.drop (0+e42.1.2.2.2.2.2.2.1.toNat)).take ((e42.2.2.2.1.length:Int).toNat-e42.1.2.2.2.2.2.2.1.toNat)))⟩:nq),(⟨e42.2.1.2.2.2.2.1.1,e42.2.1.2.2.2.2.1.2.1⟩:Result),true,())) none) none) none) none) none) none)) none;br (x5==a1.old) (iteP (0<=a1.object/\a1.object< (y1.1.objects.length:Int)) ((y1.1.objects[a1.object.toNat]?).bind λ_=>j43 (y1.1.objects.set a1.object.toNat a1.value)) none) (j43 y1.1.objects))) none;br y4.2.1 (br (decide (y4.1.seq>a1.seq)) (some (y1.1,(⟨false,0⟩:Result),false,())) (j44)) (j44);br y4.2.1 (br (y4.1.seq==a1.seq) (some (y1.1,y4.1.result,true,())) (j45)) (j45)))
def Qo[dE] :=EW 154 Tryz.f154 [.ty (.st .machine),.ty (.st .op)] [.st .machine,.st .result,.b] (λx=>KI x.1 x.2.1) [Ya,Nw,Lr,Ve] [UK] (by kernel_rfl) λx=>by simp only[KI,tm];kernel_rfl
abbrev Pm:LX:=⟨⟨[MB,MS,QV,NF],[[.em,.em],WW],Zy,0,29⟩,[(.ext 0,⟨[MS,QV],[[.em,.em],WW],Zy,0,29⟩)],[],[0,2,4,5],[2,4]⟩
def K3(s: (List rk×Unit×Unit×Int×Unit)×(Zs×Zs×Unit)×List Int×List nr×Unit):Pm.R:=
 br (decide (s.1.2.2.2.1< (s.1.1.length:Int))) (iteP (0<=s.1.2.2.2.1) ((s.1.1[s.1.2.2.2.1.toNat]?).bind λx7=>(KI (⟨s.2.2.1,s.2.2.2.1⟩:nq) x7.op).bind λy8=>some (.inl ((s.1.1,(),(),(IntKind.wrap .i64 (s.1.2.2.2.1+1)),()),(((),(),()),((),(),()),()),y8.1.objects,y8.1.sessions,()))) none) (some (.inr (((),(),()),s.2)))
def Tl:=nx K3
def TA[dE] :=Il Tryz.f153 [0] Pm K3 [Qo] [] (by kernel_rfl) λs=>by simp only[K3,tm];kernel_rfl
def Ja(a0:List rk):Option (nq×Bool×Unit):=
 (LV).bind λy1=>(ET a0).bind λy2=>br (!y2.1) (some ((⟨([]:List Int),([]:List nr)⟩:nq),false,())) ((Tl ((a0,(),(),0,()),(((),(),()),((),(),()),()),y1.1.objects,y1.1.sessions,())).bind λe9=>some ((⟨e9.2.2.1,e9.2.2.2.1⟩:nq),true,()))
def Ok[dE] :=EW 153 Tryz.f153 P6 [.st .machine,.b] (λx=>Ja x.1) [Us,L4] [TA] (by kernel_rfl) λx=>by simp only[Ja,tm];kernel_rfl
def HS(a0:Op):Option (Bool×Unit):=
 some ((a0.kind==2),())
def O7[dE] :=EW 155 Tryz.f155 Vn [.b] (λx=>HS x.1) [] [] (by kernel_rfl) λx=>by simp only[HS,tm];kernel_rfl
def GL(a0:qg)(a1:Int):Option (Bool×Unit):=
 (Ee a0).bind λy1=>br y1.1 ((Em a1 0 4).bind λy2=>br y2.1 (iteP (0<=a1) ((a0.servers[a1.toNat]?).bind λx3=>(Ew x3 a1).bind λy4=>some (y4.1,())) none) (some (false,()))) (some (false,()))
def L5[dE] :=EW 157 Tryz.f157 LD [.b] (λx=>GL x.1 x.2.1) [Et,Fl,Jd] [] (by kernel_rfl) λx=>by simp only[GL,tm];kernel_rfl
abbrev NJ:LX:=⟨⟨[NX,P7,MA,M4],[],IB,0,34⟩,[(.ext 0,⟨[P7,MA],[],IB,0,34⟩)],[],[0,1,5,6],[1,5]⟩
def Hb(s:aa2×Unit×List Int×Unit):NJ.R:=
 br (decide (s.1.2.2.2.1< (s.1.1.length:Int))) (iteP (0<=s.1.2.2.2.1) ((s.1.1[s.1.2.2.2.1.toNat]?).bind λx5=>(I0 s.2.2.1 x5).bind λy6=>some (.inl ((s.1.1,s.1.2.1,(),(IntKind.wrap .i64 (s.1.2.2.2.1+1)),()),(()),y6.1,()))) none) (some (.inr ((s.1.2.1,(),()),(()),s.2.2)))
def NB:=nx Hb
def QD[dE] :=Il Tryz.f214 [0] NJ Hb [OZ] [] (by kernel_rfl) λs=>by simp only[Hb,tm];kernel_rfl
abbrev NK:LX:=⟨⟨[P7,MA,OA],[],IB,0,34⟩,[(.ext 2,⟨[MA],[],IB,0,34⟩)],[],[1,5,7],[5]⟩
def Hc(s:aan×Unit×List Int×Unit):NK.R:=
 br (decide (s.1.2.2.1< (s.1.1.length:Int))) (iteP (0<=s.1.2.2.1) ((s.1.1[s.1.2.2.1.toNat]?).bind λx11=>(I0 s.2.2.1 x11).bind λy12=>some (.inl ((s.1.1,(),(IntKind.wrap .i64 (s.1.2.2.1+1)),()),(()),y12.1,()))) none) (some (.inr (((),()),(()),s.2.2)))
def NC:=nx Hc
def QE[dE] :=Il Tryz.f214 [1] NK Hc [OZ] [] (by kernel_rfl) λs=>by simp only[Hc,tm];kernel_rfl
def Ih(a0:List Int)(a1:List Int):Option ((List Int)×Unit):=
 (NB ((a0,a1,(),0,()),(()),([]:List Int),())).bind λe7=>(NC ((e7.1.1,(),0,()),(()),e7.2.2)).bind λe13=>some e13.2.2
def R3[dE] :=EW 214 Tryz.f214 UD L7 (λx=>Ih x.1 x.2.1) [] [QD,QE] (by kernel_rfl) λx=>by simp only[Ih,tm];kernel_rfl
def EO(a0:nF):Option ((List Int)×Unit):=
 (Ek a0).bind λy1=>br (!y1.1) (some (([]:List Int),())) ((Ih a0.replicas a0.witnesses).bind λy2=>some (y2.1,()))
def J2[dE] :=EW 158 Tryz.f158 Wl L7 (λx=>EO x.1) [JI,R3] [] (by kernel_rfl) λx=>by simp only[EO,tm];kernel_rfl
abbrev N6:LX:=⟨⟨[MS,NF,WP,OA],[JA],IB,0,37⟩,[(.ext 0,⟨[NF],[],[],0,37⟩)],[],[2,5,6,7],[5]⟩
def JC(s:aao×(MT×Unit)×List Int×Unit):N6.R:=
 br (decide (s.1.2.2.2.1< (s.2.2.1.length:Int))) (iteP (0<=s.1.2.2.2.1/\s.1.2.2.2.1< (s.2.2.1.length:Int)) ((s.2.2.1[s.1.2.2.2.1.toNat]?).bind λx17=>iteP (0<=x17) ((s.2.1.1.2.1[x17.toNat]?).bind λx18=>some (.inl (((),(if x18.version<s.1.2.1 then x18.version else s.1.2.1),(),(IntKind.wrap .i64 (s.1.2.2.2.1+1)),()),s.2))) none) none) (some (.inr ((s.1.2.1,()),(()),(()))))
def Rn:=nx JC
def Ru[dE] :=Il Tryz.f156 [0] N6 JC [] [] (by kernel_rfl) λs=>by simp only[JC,tm];kernel_rfl
def Jt(a0:qg)(a1:Int):Option (Int×Unit):=
 (GL a0 a1).bind λy1=>br (!y1.1) (some (0,())) (iteP (0<=a1) ((a0.servers[a1.toNat]?).bind λx2=>(EO x2.config).bind λy3=>(Rn (((),2,(),0,()),((a0.now,a0.servers,a0.sides,a0.master.configs,a0.master.activated,a0.masterUp,a0.lease.epoch,a0.lease.holder,a0.lease.ends,a0.places,()),()),y3.1,())).bind λe19=>some e19.1) none)
def Tc[dE] :=EW 156 Tryz.f156 LD JR (λx=>Jt x.1 x.2.1) [L5,J2] [Ru] (by kernel_rfl) λx=>by simp only[Jt,tm];kernel_rfl
def FN(a0:qg)(a1:Int)(a2:Op):Option (qg×Int×Unit):=
 (Fa a0).bind λy1=>(Ee a0).bind λy2=>br (!y2.1) (some (y1.1,1,())) ((Em a1 0 4).bind λy3=>br (!y3.1) (some (y1.1,1,())) ((EN a2).bind λy4=>br (!y4.1) (some (y1.1,1,())) (iteP (0<=a1) ((a0.servers[a1.toNat]?).bind λx5=>br (!x5.up) (some (y1.1,2,())) ((Ew x5 a1).bind λy6=>br (!y6.1) (some (y1.1,3,())) ((Lh x5.log a2.client a2.seq).bind λy7=>let j18:Option (qg×Int×Unit):=(Ja x5.log).bind λy9=>(KI y9.1 a2).bind λy10=>br (!y10.2.2.1) (some (y1.1,11,())) ((HS a2).bind λy11=>let j17:Option (qg×Int×Unit):=iteP (0<=a1/\a1< (y1.1.servers.length:Int)) ((y1.1.servers[a1.toNat]?).bind λx13=>(y1.1.servers[a1.toNat]?).bind λx14=>iteP ((0:Nat)=0) (iteP (x14.log.length<x13.log.length) none (iteP ((x14.log.take x13.log.length++([(⟨x5.epoch,a2⟩:rk)]:List rk)).length*56<=2 ^ 40) (iteP (0<=a1/\a1< (y1.1.servers.length:Int)) ((y1.1.servers[a1.toNat]?).bind λx15=>iteP (a1.toNat=a1.toNat) (some ((⟨y1.1.now,(y1.1.servers.set a1.toNat (⟨x15.up,x15.intact,x15.version,x15.epoch,x15.config,x15.first,(x14.log.take x13.log.length++([(⟨x5.epoch,a2⟩:rk)]:List rk)),x15.commit,x15.learned⟩:qj)),y1.1.sides,y1.1.master,y1.1.masterUp,y1.1.lease,y1.1.places⟩:qg),0,())) none) none) none)) none) none;br y11.1 ((Jt a0 a1).bind λy12=>br (decide (y12.1<2)) (some (y1.1,6,())) (br ((x5.log.length:Int)==16) (some (y1.1,5,())) (j17))) (br ((x5.log.length:Int)==16) (some (y1.1,5,())) (j17)));br (decide (y7.1≥0)) (iteP (0<=y7.1) ((x5.log[y7.1.toNat]?).bind λx8=>br (!((x8.op.client==a2.client)&&((x8.op.seq==a2.seq)&&((x8.op.kind==a2.kind)&&((x8.op.object==a2.object)&&((x8.op.old==a2.old)&&((x8.op.value==a2.value)&&true))))))) (some (y1.1,11,())) (br (decide (y7.1≥0)) (some (y1.1,0,())) (j18))) none) (br (decide (y7.1≥0)) (some (y1.1,0,())) (j18))))) none)))
def PV[dE] :=EW 88 Tryz.f88 Z1 OC (λx=>FN x.1 x.2.1 x.2.2.1) [Fx,Et,Fl,Lr,Jd,U8,Ok,Qo,O7,Tc] [] (by kernel_rfl) λx=>by simp only[FN,tm,-eq_self];kernel_rfl
def ES(a0:List Int)(a1:Int)(a2:Int):Option (Bool×Unit):=
 (Fu a0).bind λy1=>br y1.1 ((Em a1 0 4).bind λy2=>br y2.1 ((Em a2 0 4).bind λy3=>br y3.1 (iteP (0<=a1) ((a0[a1.toNat]?).bind λx4=>iteP (0<=a2) ((a0[a2.toNat]?).bind λx5=>some ((x4==x5),())) none) none) (some (false,()))) (some (false,()))) (some (false,()))
def KP[dE] :=EW 58 Tryz.f58 Yd [.b] (λx=>ES x.1 x.2.1 x.2.2.1) [NV,Fl] [] (by kernel_rfl) λx=>by simp only[ES,tm];kernel_rfl
def F0(a0:qg)(a1:Int)(a2:Int):Option (Bool×Unit):=
 iteP (0<=a2) ((a0.servers[a2.toNat]?).bind λx1=>(ES a0.sides a1 a2).bind λy2=>br y2.1 (br x1.up (iteP (0<=a1) ((a0.servers[a1.toNat]?).bind λx3=>br (x1.epoch==x3.epoch) (iteP (0<=a1) ((a0.servers[a1.toNat]?).bind λx4=>br (decide (x1.commit<=(x4.log.length:Int))) (iteP (0<=a1) ((a0.servers[a1.toNat]?).bind λx5=>(Gc x1.config x5.config).bind λy6=>some (y6.1,())) none) (some (false,()))) none) (some (false,()))) none) (some (false,()))) (some (false,()))) none
def R4[dE] :=EW 215 Tryz.f215 Se [.b] (λx=>F0 x.1 x.2.1 x.2.2.1) [KP,Kh] [] (by kernel_rfl) λx=>by simp only[F0,tm];kernel_rfl
def OV(a0:List rk):Option (Int×(List rk)×Unit):=
 (ET a0).bind λy1=>br (!y1.1) (some (0,([]:List rk),())) (iteP (0<=(if (IntKind.wrap .i64 ((a0.length:Int)-3))>0 then (IntKind.wrap .i64 ((a0.length:Int)-3)) else 0)/\(if (IntKind.wrap .i64 ((a0.length:Int)-3))>0 then (IntKind.wrap .i64 ((a0.length:Int)-3)) else 0)<=(a0.length:Int)/\(a0.length:Int)<=(a0.length:Int)) ((FT ((a0.drop (if (IntKind.wrap .i64 ((a0.length:Int)-3))>0 then (IntKind.wrap .i64 ((a0.length:Int)-3)) else 0).toNat).take ((a0.length:Int).toNat-(if (IntKind.wrap .i64 ((a0.length:Int)-3))>0 then (IntKind.wrap .i64 ((a0.length:Int)-3)) else 0).toNat))).bind λy2=>some ((if (IntKind.wrap .i64 ((a0.length:Int)-3))>0 then (IntKind.wrap .i64 ((a0.length:Int)-3)) else 0),y2.1,())) none)
def Xm[dE] :=EW 251 Tryz.f251 P6 aa4 (λx=>OV x.1) [L4,Ki] [] (by kernel_rfl) λx=>by simp only[OV,tm];kernel_rfl
def Od(a0:List rk):Option (Int×(List rk)×Unit):=
 (OV a0).bind λy1=>some (y1.1,y1.2.1,())
def X8[dE] :=EW 216 Tryz.f216 P6 aa4 (λx=>Od x.1) [Xm] [] (by kernel_rfl) λx=>by simp only[Od,tm];kernel_rfl
def Gf(a0:qg)(a1:Int)(a2:Int):Option (qg×Bool×Unit):=
 (Fa a0).bind λy1=>(GL a0 a1).bind λy2=>br (!y2.1) (some (y1.1,false,())) (iteP (0<=a1) ((a0.servers[a1.toNat]?).bind λx3=>(EO x3.config).bind λy4=>(Fi y4.1 a2).bind λy5=>br (!y5.1) (some (y1.1,false,())) ((F0 a0 a1 a2).bind λy6=>br (!y6.1) (some (y1.1,false,())) (iteP (0<=a1) ((a0.servers[a1.toNat]?).bind λx7=>iteP (0<=a1) ((a0.servers[a1.toNat]?).bind λx8=>(EP x8.config a2).bind λy9=>br (y9.1==3) ((Od x7.log).bind λy10=>iteP (0<=a2/\a2< (y1.1.servers.length:Int)) (iteP (0<=a2/\a2< (y1.1.servers.length:Int)) ((y1.1.servers[a2.toNat]?).bind λx11=>let z12:=y1.1.servers.set a2.toNat (⟨x11.up,x11.intact,x11.version,x11.epoch,x11.config,y10.1,x11.log,x11.commit,x11.learned⟩:qj);(z12[a2.toNat]?).bind λx13=>some ((⟨y1.1.now,(z12.set a2.toNat (⟨x13.up,x13.intact,x13.version,x13.epoch,x13.config,x13.first,y10.2.1,x13.commit,x13.learned⟩:qj)),y1.1.sides,y1.1.master,y1.1.masterUp,y1.1.lease,y1.1.places⟩:qg),true,())) none) none) ((FT x7.log).bind λy15=>iteP (0<=a2/\a2< (y1.1.servers.length:Int)) ((y1.1.servers[a2.toNat]?).bind λx16=>some ((⟨y1.1.now,(y1.1.servers.set a2.toNat (⟨x16.up,x16.intact,x16.version,x16.epoch,x16.config,x16.first,y15.1,x16.commit,x16.learned⟩:qj)),y1.1.sides,y1.1.master,y1.1.masterUp,y1.1.lease,y1.1.places⟩:qg),true,())) none)) none) none))) none)
def R1[dE] :=EW 159 Tryz.f159 Se [.st .cluster,.b] (λx=>Gf x.1 x.2.1 x.2.2.1) [Fx,L5,J2,G9,R4,Nx,X8,Ki] [] (by kernel_rfl) λx=>by simp only[Gf,tm];kernel_rfl
abbrev Kv:LX:=⟨⟨[Kz,Pc,OB,Yf,Vr,(9,.cl (.int .i64))],[Lw,Wr],Yz,0,74⟩,[(.ext 0,⟨[Kz,Pc,OB,Yf,Vr],[Lw,Wr],Yz,0,74⟩)],[],[1,4,6,7,8,9],[1,4,6,7,8]⟩
def HE(s:Yo×(LF×LF×Unit)×List Int×List qj×List Int×List nF×List uO×Unit):Kv.R:=
 br (decide (s.1.2.2.2.2.2.1< (s.2.2.1.length:Int))) (iteP (0<=s.1.2.2.2.2.2.1/\s.1.2.2.2.2.2.1< (s.2.2.1.length:Int)) ((s.2.2.1[s.1.2.2.2.2.2.1.toNat]?).bind λx25=>(Gf (⟨s.2.1.2.1.1,s.2.2.2.1,s.2.2.2.2.1,(⟨s.2.2.2.2.2.1,s.2.1.2.1.2.2.2.2.1⟩:jY),s.2.1.2.1.2.2.2.2.2.1,(⟨s.2.1.2.1.2.2.2.2.2.2.1,s.2.1.2.1.2.2.2.2.2.2.2.1,s.2.1.2.1.2.2.2.2.2.2.2.2.1⟩:uL),s.2.2.2.2.2.2.1⟩:qg) s.1.1 x25).bind λy26=>let j28 (p27:Bool):Kv.R:=some (.inl ((s.1.1,(),(),(),p27,(IntKind.wrap .i64 (s.1.2.2.2.2.2.1+1)),()),(s.2.1.1,(y26.1.now,(),(),(),y26.1.master.activated,y26.1.masterUp,y26.1.lease.epoch,y26.1.lease.holder,y26.1.lease.ends,(),()),()),s.2.2.1,y26.1.servers,y26.1.sides,y26.1.master.configs,y26.1.places,()));br s.1.2.2.2.2.1 (j28 y26.2.1) (j28 false)) none) (some (.inr ((s.1.1,(),(),(),s.1.2.2.2.2.1,()),s.2)))
def P5:=nx HE
def Qc[dE] :=Il Tryz.f90 [0] Kv HE [R1] [] (by kernel_rfl) λs=>by simp only[HE,tm];kernel_rfl
abbrev ME:LX:=⟨⟨[Kz,Pc,OB,Yf,Vr,Pe],[Lw,Wr],Yz,0,74⟩,[(.ext 2,⟨[Pc,OB,Vr],[Lw,Vu],Xy,0,74⟩)],[],[1,4,6,7,8,12],[4,6,8]⟩
def Hj(s:Yo×(LF×LF×Unit)×List Int×List qj×List Int×List nF×List uO×Unit):ME.R:=
 br (decide (s.1.2.2.2.2.2.1< (s.2.2.1.length:Int))) (br s.1.2.2.2.2.1 (iteP (0<=s.1.2.2.2.2.2.1/\s.1.2.2.2.2.2.1< (s.2.2.1.length:Int)) ((s.2.2.1[s.1.2.2.2.2.2.1.toNat]?).bind λx50=>iteP (0<=s.1.1/\s.1.1< (s.2.2.2.1.length:Int)) ((s.2.2.2.1[s.1.1.toNat]?).bind λx51=>iteP (0<=x50/\x50< (s.2.2.2.1.length:Int)) ((s.2.2.2.1[x50.toNat]?).bind λx52=>some (.inl ((s.1.1,(),(),(),s.1.2.2.2.2.1,(IntKind.wrap .i64 (s.1.2.2.2.2.2.1+1)),()),s.2.1,s.2.2.1,(s.2.2.2.1.set x50.toNat (⟨x52.up,x52.intact,x52.version,x52.epoch,x52.config,x52.first,x52.log,((x51.log.length:Nat):Int),x52.learned⟩:qj)),s.2.2.2.2))) none) none) none) (some (.inr (((),(),s.1.2.2.2.2.1,()),s.2.1,s.2.2.2)))) (some (.inr (((),(),s.1.2.2.2.2.1,()),s.2.1,s.2.2.2)))
def Pz:=nx Hj
def PD[dE] :=Il Tryz.f90 [1] ME Hj [] [] (by kernel_rfl) λs=>by simp only[Hj,tm];kernel_rfl
def Gn(a0:qg)(a1:Int):Option (qg×Bool×Unit):=
 (Fa a0).bind λy1=>(GL a0 a1).bind λy2=>br (!y2.1) (some (y1.1,false,())) (iteP (0<=a1) ((a0.servers[a1.toNat]?).bind λx3=>(EO x3.config).bind λy4=>(P5 ((a1,(),(),(),true,0,()),((0,(),(),(),0,0,0,0,0,(),()),(y1.1.now,(),(),(),y1.1.master.activated,y1.1.masterUp,y1.1.lease.epoch,y1.1.lease.holder,y1.1.lease.ends,(),()),()),y4.1,y1.1.servers,y1.1.sides,y1.1.master.configs,y1.1.places,())).bind λe29=>(Pz ((e29.1.1,(),(),(),e29.1.2.2.2.2.1,0,()),e29.2)).bind λe54=>some ((⟨e54.2.1.2.1.1,e54.2.2.1,e54.2.2.2.1,(⟨e54.2.2.2.2.1,e54.2.1.2.1.2.2.2.2.1⟩:jY),e54.2.1.2.1.2.2.2.2.2.1,(⟨e54.2.1.2.1.2.2.2.2.2.2.1,e54.2.1.2.1.2.2.2.2.2.2.2.1,e54.2.1.2.1.2.2.2.2.2.2.2.2.1⟩:uL),e54.2.2.2.2.2.1⟩:qg),e54.1.2.2)) none)
def NZ[dE] :=EW 90 Tryz.f90 LD [.st .cluster,.b] (λx=>Gn x.1 x.2.1) [Fx,L5,J2] [Qc,PD] (by kernel_rfl) λx=>by simp only[Gn,tm];kernel_rfl
def KK(a0:List rk)(a1:Int):Option (Result×Bool×Unit):=
 (ET a0).bind λy1=>br (!y1.1) (some ((⟨false,0⟩:Result),false,())) ((Em a1 0 (IntKind.wrap .i64 ((a0.length:Int)-1))).bind λy2=>br (!y2.1) (some ((⟨false,0⟩:Result),false,())) (iteP (0<=(0:Int)/\(0:Int)<=a1/\a1<=(a0.length:Int)) ((Ja ((a0.drop (0:Int).toNat).take (a1.toNat-(0:Int).toNat))).bind λy3=>iteP (0<=a1) ((a0[a1.toNat]?).bind λx4=>(KI y3.1 x4.op).bind λy5=>some (y5.2.1,y5.2.2.1,())) none) none))
def Wb[dE] :=EW 91 Tryz.f91 Z2 [.st .result,.b] (λx=>KK x.1 x.2.1) [L4,Fl,Ok,Qo] [] (by kernel_rfl) λx=>by simp only[KK,tm];kernel_rfl
def JL(a0:qg)(a1:Int)(a2:Op):Option (qg×wR×Unit):=
 (FN a0 a1 a2).bind λy1=>br (!(y1.2.1==0)) (some (y1.1,(⟨y1.2.1,(⟨false,0⟩:Result),0⟩:wR),())) (iteP (0<=a1/\a1< (y1.1.servers.length:Int)) ((y1.1.servers[a1.toNat]?).bind λx2=>(y1.1.servers[a1.toNat]?).bind λx3=>iteP (0+x2.log.length<=x3.log.length) ((Lh ((x3.log.drop 0).take x2.log.length) a2.client a2.seq).bind λy4=>iteP (0<=a1/\a1< (y1.1.servers.length:Int)) ((y1.1.servers[a1.toNat]?).bind λx5=>br (decide (y4.1≥x5.commit)) ((Gn y1.1 a1).bind λy6=>br (!y6.2.1) (some (y6.1,(⟨4,(⟨false,0⟩:Result),0⟩:wR),())) (iteP (0<=a1/\a1< (y6.1.servers.length:Int)) ((y6.1.servers[a1.toNat]?).bind λx20=>(y6.1.servers[a1.toNat]?).bind λx21=>iteP (0+x20.log.length<=x21.log.length) ((KK ((x21.log.drop 0).take x20.log.length) y4.1).bind λy22=>some (y6.1,(⟨0,y22.1,y4.1⟩:wR),())) none) none)) (iteP (0<=a1/\a1< (y1.1.servers.length:Int)) ((y1.1.servers[a1.toNat]?).bind λx23=>(y1.1.servers[a1.toNat]?).bind λx24=>iteP (0+x23.log.length<=x24.log.length) ((KK ((x24.log.drop 0).take x23.log.length) y4.1).bind λy25=>some (y1.1,(⟨0,y25.1,y4.1⟩:wR),())) none) none)) none) none) none)
def V6[dE] :=EW 31 Tryz.f31 Z1 aau (λx=>JL x.1 x.2.1 x.2.2.1) [PV,U8,NZ,Wb] [] (by kernel_rfl) λx=>by simp only[JL,tm];kernel_rfl
def J1(a0:qg)(a1:Int):Option (Int×Unit):=
 (Ee a0).bind λy1=>br (!y1.1) (some (1,())) ((Em a1 0 4).bind λy2=>br (!y2.1) (some (1,())) (iteP (0<=a1) ((a0.servers[a1.toNat]?).bind λx3=>br (!x3.up) (some (2,())) (some (0,()))) none))
def QS[dE] :=EW 164 Tryz.f164 LD JR (λx=>J1 x.1 x.2.1) [Et,Fl] [] (by kernel_rfl) λx=>by simp only[J1,tm];kernel_rfl
def Kb(a0:uL)(a1:Int)(a2:Int)(a3:Int):Option (Bool×Unit):=
 (FR a0).bind λy1=>br y1.1 ((Em a3 0 999).bind λy2=>br y2.1 (br (decide (a0.ends>0)) (br (a0.epoch==a1) (br (a0.holder==a2) (some ((decide ((IntKind.wrap .i64 (a3+3))<a0.ends)),())) (some (false,()))) (some (false,()))) (some (false,()))) (some (false,()))) (some (false,()))
def Un[dE] :=EW 217 Tryz.f217 [.ty (.st .lease),.ty (.i .i64),.ty (.i .i64),.ty (.i .i64)] [.b] (λx=>Kb x.1 x.2.1 x.2.2.1 x.2.2.2.1) [Nv,Fl] [] (by kernel_rfl) λx=>by simp only[Kb,tm];kernel_rfl
def Ib(a0:qg)(a1:Int):Option (Bool×Unit):=
 (GL a0 a1).bind λy1=>br y1.1 (iteP (0<=a1) ((a0.servers[a1.toNat]?).bind λx2=>(Kb a0.lease x2.config.epoch a1 a0.now).bind λy3=>some (y3.1,())) none) (some (false,()))
def Qp[dE] :=EW 165 Tryz.f165 LD [.b] (λx=>Ib x.1 x.2.1) [L5,Un] [] (by kernel_rfl) λx=>by simp only[Ib,tm];kernel_rfl
def EB(a0:qj):Option ((List rk)×Unit):=
 (Em a0.commit a0.first (IntKind.wrap .i64 (a0.first+(a0.log.length:Int)))).bind λy1=>br (!y1.1) (some (([]:List rk),())) (br (decide (a0.first<0)) (some (([]:List rk),())) (iteP (0<=(0:Int)/\(0:Int)<=(IntKind.wrap .i64 (a0.commit-a0.first))/\(IntKind.wrap .i64 (a0.commit-a0.first))<=(a0.log.length:Int)) ((FT ((a0.log.drop (0:Int).toNat).take ((IntKind.wrap .i64 (a0.commit-a0.first)).toNat-(0:Int).toNat))).bind λy2=>some (y2.1,())) none))
def IJ[dE] :=EW 18 Tryz.f18 TJ Wm (λx=>EB x.1) [Fl,Ki] [] (by kernel_rfl) λx=>by simp only[EB,tm];kernel_rfl
def Kf(a0:nq)(a1:Int):Option (Int×Bool×Unit):=
 (F2 a0).bind λy1=>br (!y1.1) (some (0,false,())) ((Em a1 0 2).bind λy2=>br (!y2.1) (some (0,false,())) (iteP (0<=a1) ((a0.objects[a1.toNat]?).bind λx3=>some (x3,true,())) none))
def Ut[dE] :=EW 218 Tryz.f218 Z0 [.i .i64,.b] (λx=>Kf x.1 x.2.1) [Nw,Fl] [] (by kernel_rfl) λx=>by simp only[Kf,tm];kernel_rfl
def Ml(a0:qj)(a1:Int):Option (wR×Unit):=
 (EB a0).bind λy1=>(Ja y1.1).bind λy2=>(Kf y2.1 a1).bind λy3=>some ((⟨0,(⟨true,y3.1⟩:Result),a0.commit⟩:wR),())
def Wd[dE] :=EW 166 Tryz.f166 UE [.st .reply] (λx=>Ml x.1 x.2.1) [IJ,Ok,Ut] [] (by kernel_rfl) λx=>by simp only[Ml,tm];kernel_rfl
def Lj(a0:qg)(a1:Int)(a2:Int):Option (wR×Unit):=
 (J1 a0 a1).bind λy1=>br (!(y1.1==0)) (some ((⟨y1.1,(⟨false,0⟩:Result),0⟩:wR),())) ((Em a2 0 2).bind λy2=>br (!y2.1) (some ((⟨1,(⟨false,0⟩:Result),0⟩:wR),())) (iteP (0<=a1) ((a0.servers[a1.toNat]?).bind λx3=>(Ew x3 a1).bind λy4=>br (!y4.1) (some ((⟨3,(⟨false,0⟩:Result),0⟩:wR),())) ((Ib a0 a1).bind λy5=>br (!y5.1) (some ((⟨7,(⟨false,0⟩:Result),0⟩:wR),())) (iteP (0<=a1) ((a0.servers[a1.toNat]?).bind λx6=>(Ml x6 a2).bind λy7=>some (y7.1,())) none))) none))
def Va[dE] :=EW 99 Tryz.f99 Se [.st .reply] (λx=>Lj x.1 x.2.1 x.2.2.1) [QS,Fl,Jd,Qp,Wd] [] (by kernel_rfl) λx=>by simp only[Lj,tm];kernel_rfl
def KL(a0:uL):Option (Int×Unit):=
 (FR a0).bind λy1=>br (!y1.1) (some (0,())) (br (a0.ends==0) (some (0,())) (some ((IntKind.wrap .i64 (a0.ends+3)),())))
def R2[dE] :=EW 236 Tryz.f236 WM JR (λx=>KL x.1) [Nv] [] (by kernel_rfl) λx=>by simp only[KL,tm];kernel_rfl
def HT(a0:uL)(a1:Int):Option (Bool×Unit):=
 (FR a0).bind λy1=>br y1.1 ((Em a1 0 999).bind λy2=>br y2.1 ((KL a0).bind λy3=>some ((decide (a1≥y3.1)),())) (some (false,()))) (some (false,()))
def O8[dE] :=EW 225 Tryz.f225 Z3 [.b] (λx=>HT x.1 x.2.1) [Nv,Fl,R2] [] (by kernel_rfl) λx=>by simp only[HT,tm];kernel_rfl
def Iw(a0:uL)(a1:Int)(a2:Int)(a3:Int)(a4:Int):Option (uL×Bool×Unit):=
 br (a0.epoch==a1) ((FR a0).bind λy1=>br (!y1.1) (some (a0,false,())) ((Em a1 1 20).bind λy2=>br (!y2.1) (some (a0,false,())) ((Em a2 0 4).bind λy3=>br (!y3.1) (some (a0,false,())) ((Em a3 0 999).bind λy4=>br (!y4.1) (some (a0,false,())) ((Em a4 1 50).bind λy5=>br (!y5.1) (some (a0,false,())) ((HT a0 a3).bind λy6=>br (!y6.1) (br (!(a0.holder==a2)) (some (a0,false,())) (br (a0.holder==a2) (some ((⟨a1,a2,(if a0.ends>(IntKind.wrap .i64 (a3+a4)) then a0.ends else (IntKind.wrap .i64 (a3+a4)))⟩:uL),true,())) (some ((⟨a1,a2,(IntKind.wrap .i64 (a3+a4))⟩:uL),true,())))) (br (a0.holder==a2) (some ((⟨a1,a2,(if a0.ends>(IntKind.wrap .i64 (a3+a4)) then a0.ends else (IntKind.wrap .i64 (a3+a4)))⟩:uL),true,())) (some ((⟨a1,a2,(IntKind.wrap .i64 (a3+a4))⟩:uL),true,()))))))))) ((FR a0).bind λy10=>br (!y10.1) (some (a0,false,())) ((Em a1 1 20).bind λy11=>br (!y11.1) (some (a0,false,())) ((Em a2 0 4).bind λy12=>br (!y12.1) (some (a0,false,())) ((Em a3 0 999).bind λy13=>br (!y13.1) (some (a0,false,())) ((Em a4 1 50).bind λy14=>br (!y14.1) (some (a0,false,())) ((HT a0 a3).bind λy15=>br (!y15.1) (br (!false) (some (a0,false,())) (some ((⟨a1,a2,(IntKind.wrap .i64 (a3+a4))⟩:uL),true,()))) (some ((⟨a1,a2,(IntKind.wrap .i64 (a3+a4))⟩:uL),true,()))))))))
def Um[dE] :=EW 219 Tryz.f219 [.ty (.st .lease),.ty (.i .i64),.ty (.i .i64),.ty (.i .i64),.ty (.i .i64)] [.st .lease,.b] (λx=>Iw x.1 x.2.1 x.2.2.1 x.2.2.2.1 x.2.2.2.2.1) [Nv,Fl,O8] [] (by kernel_rfl) λx=>by simp only[Iw,tm];kernel_rfl
def Gg(a0:qg)(a1:Int)(a2:Int):Option (qg×Int×Unit):=
 (Fa a0).bind λy1=>(J1 a0 a1).bind λy2=>br (!(y2.1==0)) (some (y1.1,y2.1,())) (iteP (0<=a1) ((a0.servers[a1.toNat]?).bind λx3=>(Ew x3 a1).bind λy4=>br (!y4.1) (some (y1.1,3,())) (br (decide ((IntKind.wrap .i64 (a0.masterUp*2))<=3)) (some (y1.1,8,())) (iteP (0<=a1) ((a0.sides[a1.toNat]?).bind λx5=>br (!(x5==0)) (some (y1.1,8,())) (br (!(x3.config.epoch==(a0.master.configs.length:Int))) (some (y1.1,11,())) ((Iw a0.lease x3.config.epoch a1 a0.now a2).bind λy6=>br (!y6.2.1) (some (y1.1,7,())) (some ((⟨y1.1.now,y1.1.servers,y1.1.sides,y1.1.master,y1.1.masterUp,y6.1,y1.1.places⟩:qg),0,()))))) none))) none)
def PZ[dE] :=EW 167 Tryz.f167 Se OC (λx=>Gg x.1 x.2.1 x.2.2.1) [Fx,QS,Jd,Um] [] (by kernel_rfl) λx=>by simp only[Gg,tm];kernel_rfl
abbrev Pp:LX:=⟨⟨[Kt,TM,Oz],[JA],IB,0,28⟩,[(.ext 0,⟨[TM],[],IB,0,28⟩)],[],[1,3,4],[3]⟩
def IT(s:Zr×(MT×Unit)×List Int×Unit):Pp.R:=
 br (decide (s.1.2.2.1< (s.2.1.1.2.1.length:Int))) ((Ee (⟨s.2.1.1.1,s.2.1.1.2.1,s.2.1.1.2.2.1,(⟨s.2.1.1.2.2.2.1,s.2.1.1.2.2.2.2.1⟩:jY),s.2.1.1.2.2.2.2.2.1,(⟨s.2.1.1.2.2.2.2.2.2.1,s.2.1.1.2.2.2.2.2.2.2.1,s.2.1.1.2.2.2.2.2.2.2.2.1⟩:uL),s.2.1.1.2.2.2.2.2.2.2.2.2.1⟩:qg)).bind λy13=>br y13.1 (iteP (0<=s.1.2.2.1) ((s.2.1.1.2.1[s.1.2.2.1.toNat]?).bind λx14=>br x14.up (iteP ((s.2.2.1++([s.1.2.2.1]:List Int)).length*8<=2 ^ 40) (some (.inl (((),(),(IntKind.wrap .i64 (s.1.2.2.1+1)),()),s.2.1,(s.2.2.1++([s.1.2.2.1]:List Int)),()))) none) (some (.inl (((),(),(IntKind.wrap .i64 (s.1.2.2.1+1)),()),s.2)))) none) (some (.inr (((),()),(()),s.2.2)))) (some (.inr (((),()),(()),s.2.2)))
def Pa:=nx IT
def TD[dE] :=Il Tryz.f252 [0] Pp IT [Et] [] (by kernel_rfl) λs=>by simp only[IT,tm];kernel_rfl
def Ln(a0:qg):Option ((List Int)×Unit):=
 (Pa (((),(),0,()),((a0.now,a0.servers,a0.sides,a0.master.configs,a0.master.activated,a0.masterUp,a0.lease.epoch,a0.lease.holder,a0.lease.ends,a0.places,()),()),([]:List Int),())).bind λe16=>some e16.2.2
def Vg[dE] :=EW 252 Tryz.f252 Sd L7 (λx=>Ln x.1) [] [TD] (by kernel_rfl) λx=>by simp only[Ln,tm];kernel_rfl
abbrev OL:LX:=⟨⟨[NX,TM,Oz],[],IB,0,26⟩,[(.ext 0,⟨[TM],[],IB,0,26⟩)],[],[0,3,4],[3]⟩
def H3(s:aan×Unit×List Int×Unit):OL.R:=
 br (decide (s.1.2.2.1< (s.1.1.length:Int))) ((Fu s.1.1).bind λy4=>br y4.1 (iteP (0<=s.1.2.2.1) ((s.1.1[s.1.2.2.1.toNat]?).bind λx5=>br (x5==0) (iteP ((s.2.2.1++([s.1.2.2.1]:List Int)).length*8<=2 ^ 40) (some (.inl ((s.1.1,(),(IntKind.wrap .i64 (s.1.2.2.1+1)),()),(()),(s.2.2.1++([s.1.2.2.1]:List Int)),()))) none) (some (.inl ((s.1.1,(),(IntKind.wrap .i64 (s.1.2.2.1+1)),()),(()),s.2.2)))) none) (some (.inr (((),()),(()),s.2.2)))) (some (.inr (((),()),(()),s.2.2)))
def Ov:=nx H3
def SA[dE] :=Il Tryz.f253 [0] OL H3 [NV] [] (by kernel_rfl) λs=>by simp only[H3,tm];kernel_rfl
def Kd(a0:List Int):Option ((List Int)×Unit):=
 (Ov ((a0,(),0,()),(()),([]:List Int),())).bind λe7=>some e7.2.2
def Up[dE] :=EW 253 Tryz.f253 Wk L7 (λx=>Kd x.1) [] [SA] (by kernel_rfl) λx=>by simp only[Kd,tm];kernel_rfl
def Mm(a0:qg):Option ((List Int)×Unit):=
 (Ln a0).bind λy1=>(Kd a0.sides).bind λy2=>(GY y1.1 y2.1).bind λy3=>some (y3.1,())
def We[dE] :=EW 220 Tryz.f220 Sd L7 (λx=>Mm x.1) [Vg,Up,Lz] [] (by kernel_rfl) λx=>by simp only[Mm,tm];kernel_rfl
def Ej(a0:jY):Option (nF×Bool×Unit):=
 (Fz a0 a0.activated).bind λy1=>some (y1.1,y1.2.1,())
def G3[dE] :=EW 20 Tryz.f20 Vp Wn (λx=>Ej x.1) [Py] [] (by kernel_rfl) λx=>by simp only[Ej,tm];kernel_rfl
abbrev MM:LX:=⟨⟨[NX,P7,MA,M4],[],IB,0,28⟩,[(.ext 0,⟨[MA],[],IB,0,28⟩)],[],[0,1,5,6],[5]⟩
def Gz(s:aa2×Unit×List Int×Unit):MM.R:=
 br (decide (s.1.2.2.2.1< (s.1.1.length:Int))) (iteP (0<=s.1.2.2.2.1) ((s.1.1[s.1.2.2.2.1.toNat]?).bind λx5=>(Fi s.1.2.1 x5).bind λy6=>br (!y6.1) (iteP (0<=s.1.2.2.2.1) ((s.1.1[s.1.2.2.2.1.toNat]?).bind λx7=>(I0 s.2.2.1 x7).bind λy8=>some (.inl ((s.1.1,s.1.2.1,(),(IntKind.wrap .i64 (s.1.2.2.2.1+1)),()),(()),y8.1,()))) none) (some (.inl ((s.1.1,s.1.2.1,(),(IntKind.wrap .i64 (s.1.2.2.2.1+1)),()),(()),s.2.2)))) none) (some (.inr (((),()),(()),s.2.2)))
def Mw:=nx Gz
def PI[dE] :=Il Tryz.f223 [0] MM Gz [G9,OZ] [] (by kernel_rfl) λs=>by simp only[Gz,tm];kernel_rfl
def GD(a0:List Int)(a1:List Int):Option ((List Int)×Unit):=
 (Mw ((a0,a1,(),0,()),(()),([]:List Int),())).bind λe10=>some e10.2.2
def Ny[dE] :=EW 223 Tryz.f223 UD L7 (λx=>GD x.1 x.2.1) [] [PI] (by kernel_rfl) λx=>by simp only[GD,tm];kernel_rfl
abbrev Q0:LX:=⟨⟨[Sf,P7,MA,M4],[],IB,0,33⟩,[(.ext 0,⟨[MA],[],IB,0,33⟩)],[],[0,1,5,6],[5]⟩
def MU(s: (List uO×List Int×Unit×Int×Unit)×Unit×List Int×Unit):Q0.R:=
 br (decide (s.1.2.2.2.1< (s.1.2.1.length:Int))) ((Fb s.1.1).bind λy5=>br y5.1 ((FJ s.1.2.1).bind λy6=>br y6.1 (iteP (0<=s.1.2.2.2.1) ((s.1.2.1[s.1.2.2.2.1.toNat]?).bind λx7=>iteP (0<=x7) ((s.1.1[x7.toNat]?).bind λx8=>(I0 s.2.2.1 x8.rack).bind λy9=>some (.inl ((s.1.1,s.1.2.1,(),(IntKind.wrap .i64 (s.1.2.2.2.1+1)),()),(()),y9.1,()))) none) none) (some (.inr (((),()),(()),s.2.2)))) (some (.inr (((),()),(()),s.2.2)))) (some (.inr (((),()),(()),s.2.2)))
def Vl:=nx MU
def Vz[dE] :=Il Tryz.f254 [0] Q0 MU [Lq,L3,OZ] [] (by kernel_rfl) λs=>by simp only[MU,tm];kernel_rfl
def Ns(a0:List uO)(a1:List Int):Option ((List Int)×Unit):=
 (Vl ((a0,a1,(),0,()),(()),([]:List Int),())).bind λe10=>some e10.2.2
def Xo[dE] :=EW 254 Tryz.f254 [.ty (.ls (.st .place)),.ty (.ls (.i .i64))] L7 (λx=>Ns x.1 x.2.1) [] [Vz] (by kernel_rfl) λx=>by simp only[Ns,tm];kernel_rfl
def Nr(a0:List uO)(a1:Int):Option (Bool×Unit):=
 (Fb a0).bind λy1=>br y1.1 ((Em a1 0 4).bind λy2=>br y2.1 (iteP (0<=a1) ((a0[a1.toNat]?).bind λx3=>iteP (0<=a1) ((a0[a1.toNat]?).bind λx4=>some ((decide (x3.load<x4.capacity)),())) none) none) (some (false,()))) (some (false,()))
def Xn[dE] :=EW 255 Tryz.f255 [.ty (.ls (.st .place)),.ty (.i .i64)] [.b] (λx=>Nr x.1 x.2.1) [Lq,Fl] [] (by kernel_rfl) λx=>by simp only[Nr,tm];kernel_rfl
def Mq(a0:List uO)(a1:List Int)(a2:Int)(a3:Int):Option (Bool×Unit):=
 iteP (0<=a2) ((a0[a2.toNat]?).bind λx1=>(Fi a1 x1.rack).bind λy2=>iteP (0<=a3) ((a0[a3.toNat]?).bind λx3=>(Fi a1 x3.rack).bind λy4=>br (!(y2.1==y4.1)) (some (y4.1,())) (iteP (0<=a2) ((a0[a2.toNat]?).bind λx5=>iteP (0<=a3) ((a0[a3.toNat]?).bind λx6=>some ((decide (x5.load<x6.load)),())) none) none)) none) none
def Wg[dE] :=EW 256 Tryz.f256 [.ty (.ls (.st .place)),.ty (.ls (.i .i64)),.ty (.i .i64),.ty (.i .i64)] [.b] (λx=>Mq x.1 x.2.1 x.2.2.1 x.2.2.2.1) [G9] [] (by kernel_rfl) λx=>by simp only[Mq,tm];kernel_rfl
abbrev Nk:LX:=⟨⟨[Sf,P7,(2,.cl (.ro (.i .i64))),OA,WQ,(9,.cl (.int .i64))],[],IB,0,46⟩,[(.ext 0,⟨[OA],[],[],0,46⟩)],[],[0,1,2,7,8,9],[7]⟩
def K2(s: (List uO×List Int×List Int×Int×Unit×Int×Unit)×Unit×List Int×Unit):Nk.R:=
 br (decide (s.1.2.2.2.2.2.1<5)) ((FJ s.1.2.1).bind λy8=>br y8.1 ((Nr s.1.1 s.1.2.2.2.2.2.1).bind λy9=>let j14 (p13:Int):Nk.R:=some (.inl ((s.1.1,s.1.2.1,s.1.2.2.1,p13,(),(IntKind.wrap .i64 (s.1.2.2.2.2.2.1+1)),()),(()),s.2.2));br (!y9.1) (j14 s.1.2.2.2.1) ((Fi s.1.2.1 s.1.2.2.2.2.2.1).bind λy10=>br y10.1 (j14 s.1.2.2.2.1) ((Fi s.1.2.2.1 s.1.2.2.2.2.2.1).bind λy11=>br y11.1 (j14 s.1.2.2.2.1) (br (decide (s.1.2.2.2.1<0)) (j14 s.1.2.2.2.2.2.1) ((Mq s.1.1 s.2.2.1 s.1.2.2.2.2.2.1 s.1.2.2.2.1).bind λy12=>br y12.1 (j14 s.1.2.2.2.2.2.1) (j14 s.1.2.2.2.1)))))) (some (.inr ((s.1.2.2.2.1,()),(()),(()))))) (some (.inr ((s.1.2.2.2.1,()),(()),(()))))
def Tj:=nx K2
def Tz[dE] :=Il Tryz.f222 [0] Nk K2 [L3,Xn,G9,Wg] [] (by kernel_rfl) λs=>by simp only[K2,tm];kernel_rfl
def JZ(a0:List uO)(a1:List Int)(a2:List Int):Option (Int×Unit):=
 (Ns a0 a1).bind λy1=>(Tj ((a0,a1,a2,(-1),(),0,()),(()),y1.1,())).bind λe15=>some e15.1
def QR[dE] :=EW 222 Tryz.f222 [.ty (.ls (.st .place)),.ty (.ls (.i .i64)),.ty (.ls (.i .i64))] JR (λx=>JZ x.1 x.2.1 x.2.2.1) [Xo] [Tz] (by kernel_rfl) λx=>by simp only[JZ,tm];kernel_rfl
abbrev N8:LX:=⟨⟨[Sf,Ng,Yg,(10,.cl (.own 1 (.i .i64)))],[],aa5,0,52⟩,[(.ret,⟨[WQ,Yg],[],IB,0,52⟩),(.ext 0,⟨[(8,.cl (.dead)),Yg],[],IB,0,52⟩)],[],[0,3,9,10],[8,9]⟩
def JD(s: (List uO×Int×Unit×Unit×Unit)×Unit×List Int×List Int×Unit):N8.R:=
 br (decide ((s.2.2.1.length:Int)<s.1.2.1)) ((JZ s.1.1 s.2.2.1 s.2.2.2.1).bind λy11=>br (decide (y11.1<0)) (some (.inr (.inl (((),(),()),(()),s.2.2.1,())))) ((I0 s.2.2.1 y11.1).bind λy12=>some (.inl (s.1,(()),y12.1,s.2.2.2)))) (some (.inr (.inr (((),(),()),(()),s.2.2.1,()))))
def Rp:=nx JD
def Rx[dE] :=Il Tryz.f221 [0] N8 JD [QR,OZ] [] (by kernel_rfl) λs=>by simp only[JD,tm];kernel_rfl
def Ju(a0:List uO)(a1:List Int)(a2:List Int)(a3:Int):Option ((List Int)×Unit):=
 (GY a1 a2).bind λy1=>(GD ([0,1,2,3,4]:List Int) a2).bind λy2=>(Fb a0).bind λy3=>br (!y3.1) (some (([]:List Int),())) ((FJ a1).bind λy4=>br (!y4.1) (some (([]:List Int),())) ((FJ a2).bind λy5=>br (!y5.1) (some (([]:List Int),())) ((Em a3 0 5).bind λy6=>br (!y6.1) (some (([]:List Int),())) ((Rp ((a0,a3,(),(),()),(()),y1.1,y2.1,())).bind λe13=>Sum.elim (λe13_0=>some e13_0.2.2) (λe13_1=>some e13_1.2.2) e13))))
def Td[dE] :=EW 221 Tryz.f221 [.ty (.ls (.st .place)),.ty (.ls (.i .i64)),.ty (.ls (.i .i64)),.ty (.i .i64)] L7 (λx=>Ju x.1 x.2.1 x.2.2.1 x.2.2.2.1) [Lz,Ny,Lq,L3,Fl] [Rx] (by kernel_rfl) λx=>by simp only[Ju,tm];kernel_rfl
abbrev MI:LX:=⟨⟨[Kz,Pb,QW,OB,WQ,(9,.cl (.ptr 2 0)),aag,Pe],[JA,aax,Yu],aaz,0,132⟩,[(.ext 0,⟨[Kz,Pb,QW,OB,WQ,(9,.cl (.ptr 2 0)),aag],[JA,aax,Yu],aaz,0,132⟩)],[],[1,2,3,6,8,9,11,12],[1,2,3,6,8,9,11]⟩
def J5(s: (Int×Int×Unit×Unit×Unit×Unit×Unit×Int×Unit)×(MT×Qx×Qx×Unit)×List Int×List Int×List Int×List Int×Unit):MI.R:=
 br (decide (s.1.2.2.2.2.2.2.2.1< (s.2.2.2.2.1.length:Int))) (iteP (0<=s.1.2.2.2.2.2.2.2.1/\s.1.2.2.2.2.2.2.2.1< (s.2.2.2.2.1.length:Int)) ((s.2.2.2.2.1[s.1.2.2.2.2.2.2.2.1.toNat]?).bind λx27=>(Fi s.2.2.1 x27).bind λy28=>let j33 (p32:List Int):MI.R:=some (.inl ((s.1.1,s.1.2.1,(),(),(),(),(),(IntKind.wrap .i64 (s.1.2.2.2.2.2.2.2.1+1)),()),s.2.1,s.2.2.1,p32,s.2.2.2.2));br y28.1 (iteP (0<=s.1.2.2.2.2.2.2.2.1/\s.1.2.2.2.2.2.2.2.1< (s.2.2.2.2.1.length:Int)) ((s.2.2.2.2.1[s.1.2.2.2.2.2.2.2.1.toNat]?).bind λx29=>iteP (0<=x29) ((s.2.1.1.2.1[x29.toNat]?).bind λx30=>br (x30.config.epoch==s.2.1.2.2.1.1) (iteP (0<=s.1.2.2.2.2.2.2.2.1/\s.1.2.2.2.2.2.2.2.1< (s.2.2.2.2.1.length:Int)) ((s.2.2.2.2.1[s.1.2.2.2.2.2.2.2.1.toNat]?).bind λx31=>iteP ((s.2.2.2.1++([x31]:List Int)).length*8<=2 ^ 40) (j33 (s.2.2.2.1++([x31]:List Int))) none) none) (j33 s.2.2.2.1)) none) none) (j33 s.2.2.2.1)) none) (some (.inr ((s.1.1,s.1.2.1,(),(),(),(),(),()),s.2)))
def Sc:=nx J5
def SC[dE] :=Il Tryz.f168 [0] MI J5 [G9] [] (by kernel_rfl) λs=>by simp only[J5,tm];kernel_rfl
def Jl(a0:qg)(a1:Int)(a2:Int):Option (nF×Bool×Unit):=
 (Ee a0).bind λy1=>br (!y1.1) (some ((⟨0,0,([]:List Int),([]:List Int)⟩:nF),false,())) ((Em a1 1 3).bind λy2=>br (!y2.1) (some ((⟨0,0,([]:List Int),([]:List Int)⟩:nF),false,())) ((Em a2 0 1).bind λy3=>br (!y3.1) (some ((⟨0,0,([]:List Int),([]:List Int)⟩:nF),false,())) (br ((a0.master.configs.length:Int)==20) (some ((⟨0,0,([]:List Int),([]:List Int)⟩:nF),false,())) ((Mm a0).bind λy4=>(Ej a0.master).bind λy5=>(Sc ((a1,a2,(),(),(),(),(),0,()),((a0.now,a0.servers,a0.sides,a0.master.configs,a0.master.activated,a0.masterUp,a0.lease.epoch,a0.lease.holder,a0.lease.ends,a0.places,()),(0,0,(),(),()),(y5.1.epoch,y5.1.primary,(),(),()),()),y4.1,([]:List Int),y5.1.replicas,y5.1.witnesses,())).bind λe34=>(Ju e34.2.1.1.2.2.2.2.2.2.2.2.2.1 e34.2.2.2.1 e34.2.2.1 e34.1.1).bind λy35=>br ((y35.1.length:Int)==0) (some ((⟨0,0,([]:List Int),([]:List Int)⟩:nF),false,())) (iteP (0<=(0:Int)/\(0:Int)< (y35.1.length:Int)) ((y35.1[(0:Int).toNat]?).bind λx36=>(Fi y35.1 e34.2.1.2.2.1.2.1).bind λy37=>let j43 (p39:Int):Option (nF×Bool×Unit):=br (e34.1.2.1==1) ((GD ([0,1,2,3,4]:List Int) e34.2.2.1).bind λy40=>(JZ e34.2.1.1.2.2.2.2.2.2.2.2.2.1 y35.1 y40.1).bind λy41=>br (decide (y41.1≥0)) (some ((⟨(IntKind.wrap .i64 ((e34.2.1.1.2.2.2.1.length:Int)+1)),p39,y35.1,([y41.1]:List Int)⟩:nF),true,())) (some ((⟨(IntKind.wrap .i64 ((e34.2.1.1.2.2.2.1.length:Int)+1)),p39,y35.1,([]:List Int)⟩:nF),true,()))) (some ((⟨(IntKind.wrap .i64 ((e34.2.1.1.2.2.2.1.length:Int)+1)),p39,y35.1,([]:List Int)⟩:nF),true,()));br y37.1 ((IV (⟨e34.2.1.2.2.1.1,e34.2.1.2.2.1.2.1,e34.2.2.2.2.1,e34.2.2.2.2.2.1⟩:nF)).bind λy38=>br (!y38.1) (j43 e34.2.1.2.2.1.2.1) (j43 x36)) (j43 x36)) none)))))
def PY[dE] :=EW 168 Tryz.f168 Se Wn (λx=>Jl x.1 x.2.1 x.2.2.1) [Et,Fl,We,G3,G9,Td,OY,Ny,QR] [SC] (by kernel_rfl) λx=>by simp only[Jl,tm];kernel_rfl
def GZ(a0:jY)(a1:nF):Option (jY×Bool×Unit):=
 (KM a0).bind λy1=>(Er a0).bind λy2=>br (!y2.1) (some (y1.1,false,())) ((Ek a1).bind λy3=>br (!y3.1) (some (y1.1,false,())) (br (!(a1.epoch==(IntKind.wrap .i64 ((a0.configs.length:Int)+1)))) (some (y1.1,false,())) ((Hk a1).bind λy4=>iteP ((y1.1.configs++([y4.1]:List nF)).length*64<=2 ^ 40) (some ((⟨(y1.1.configs++([y4.1]:List nF)),y1.1.activated⟩:jY),true,())) none)))
def Rd[dE] :=EW 195 Tryz.f195 [.ty (.st .masterLog),.ty (.st .config)] Yr (λx=>GZ x.1 x.2.1) [Qr,La,JI,Om] [] (by kernel_rfl) λx=>by simp only[GZ,tm];kernel_rfl
def F4(a0:qg)(a1:nF):Option (qg×Int×Unit):=
 (Fa a0).bind λy1=>(Ee a0).bind λy2=>br (!y2.1) (some (y1.1,1,())) (br (decide ((IntKind.wrap .i64 (a0.masterUp*2))<=3)) (some (y1.1,8,())) ((GZ a0.master a1).bind λy3=>br (!y3.2.1) (some (y1.1,1,())) (some ((⟨y1.1.now,y1.1.servers,y1.1.sides,y3.1,y1.1.masterUp,y1.1.lease,y1.1.places⟩:qg),0,()))))
def M9[dE] :=EW 169 Tryz.f169 [.ty (.st .cluster),.ty (.st .config)] OC (λx=>F4 x.1 x.2.1) [Fx,Et,Rd] [] (by kernel_rfl) λx=>by simp only[F4,tm];kernel_rfl
def Ge(a0:jY):Option (nF×Bool×Unit):=
 (Fz a0 (a0.configs.length:Int)).bind λy1=>some (y1.1,y1.2.1,())
def Uo[dE] :=EW 224 Tryz.f224 Vp Wn (λx=>Ge x.1) [Py] [] (by kernel_rfl) λx=>by simp only[Ge,tm];kernel_rfl
def Gh(a0:qj)(a1:Int):Option (qj×Bool×Unit):=
 (Hz a0).bind λy1=>(Em a1 1 20).bind λy2=>br (!y2.1) (some (y1.1,false,())) (br (decide (a1<=a0.epoch)) (some (y1.1,false,())) (br (decide (a0.epoch<0)) (some (y1.1,false,())) (some ((⟨y1.1.up,y1.1.intact,y1.1.version,a1,y1.1.config,y1.1.first,y1.1.log,y1.1.commit,y1.1.learned⟩:qj),true,()))))
def Uu[dE] :=EW 202 Tryz.f202 UE Zu (λx=>Gh x.1 x.2.1) [Qs,Fl] [] (by kernel_rfl) λx=>by simp only[Gh,tm];kernel_rfl
abbrev LI:LX:=⟨⟨[Kz,Pb,QW,OB,(7,.cl (.ptr 2 0)),aah,Sg],[JA,Lw,Wr],Yz,0,85⟩,[(.ext 0,⟨[(6,.cl (.ptr 0 0)),(7,.cl (.ptr 1 0))],[Lw,Vu],Xy,0,85⟩)],[],[1,2,3,6,7,10,11],[6,7]⟩
def Ff(s: (Int×Int×Unit×Unit×Unit×Unit×Int×Unit)×(MT×LF×LF×Unit)×List Int×List qj×List Int×List nF×List uO×Unit):LI.R:=
 br (decide (s.1.2.2.2.2.2.2.1< (s.2.2.1.length:Int))) (iteP (0<=s.1.2.2.2.2.2.2.1/\s.1.2.2.2.2.2.2.1< (s.2.2.1.length:Int)) ((s.2.2.1[s.1.2.2.2.2.2.2.1.toNat]?).bind λx36=>iteP (0<=x36) ((s.2.1.1.2.1[x36.toNat]?).bind λx37=>let j47 (p46:List qj):LI.R:=some (.inl ((s.1.1,s.1.2.1,(),(),(),(),(IntKind.wrap .i64 (s.1.2.2.2.2.2.2.1+1)),()),s.2.1,s.2.2.1,p46,s.2.2.2.2));br x37.up (iteP (0<=s.1.2.2.2.2.2.2.1/\s.1.2.2.2.2.2.2.1< (s.2.2.1.length:Int)) ((s.2.2.1[s.1.2.2.2.2.2.2.1.toNat]?).bind λx38=>(ES s.2.1.1.2.2.1 s.1.1 x38).bind λy39=>br y39.1 (iteP (0<=s.1.2.2.2.2.2.2.1/\s.1.2.2.2.2.2.2.1< (s.2.2.1.length:Int)) ((s.2.2.1[s.1.2.2.2.2.2.2.1.toNat]?).bind λx40=>iteP (0<=s.1.2.2.2.2.2.2.1/\s.1.2.2.2.2.2.2.1< (s.2.2.1.length:Int)) ((s.2.2.1[s.1.2.2.2.2.2.2.1.toNat]?).bind λx41=>iteP (0<=x41) ((s.2.1.1.2.1[x41.toNat]?).bind λx42=>(Gh x42 s.1.2.1).bind λy43=>iteP (0<=x40/\x40< (s.2.2.2.1.length:Int)) ((s.2.2.2.1[x40.toNat]?).bind λ_=>j47 (s.2.2.2.1.set x40.toNat y43.1)) none) none) none) none) (j47 s.2.2.2.1)) none) (j47 s.2.2.2.1)) none) none) (some (.inr (((),(),()),s.2.1.2,s.2.2.2)))
def LC:=nx Ff
def Ry[dE] :=Il Tryz.f226 [0] LI Ff [KP,Uu] [] (by kernel_rfl) λs=>by simp only[Ff,tm];kernel_rfl
def E0(a0:qg)(a1:Int)(a2:Int):Option (qg×Unit):=
 (Fa a0).bind λy1=>(Ej a0.master).bind λy2=>(Ee a0).bind λy3=>br (!y3.1) (some (y1.1,())) (br (!y2.2.1) (some (y1.1,())) ((Em a2 1 (a0.master.configs.length:Int)).bind λy4=>br (!y4.1) (some (y1.1,())) ((EO y2.1).bind λy5=>(LC ((a1,a2,(),(),(),(),0,()),((a0.now,a0.servers,a0.sides,a0.master.configs,a0.master.activated,a0.masterUp,a0.lease.epoch,a0.lease.holder,a0.lease.ends,a0.places,()),(0,(),(),(),0,0,0,0,0,(),()),(y1.1.now,(),(),(),y1.1.master.activated,y1.1.masterUp,y1.1.lease.epoch,y1.1.lease.holder,y1.1.lease.ends,(),()),()),y5.1,y1.1.servers,y1.1.sides,y1.1.master.configs,y1.1.places,())).bind λe48=>some ((⟨e48.2.1.2.1.1,e48.2.2.1,e48.2.2.2.1,(⟨e48.2.2.2.2.1,e48.2.1.2.1.2.2.2.2.1⟩:jY),e48.2.1.2.1.2.2.2.2.2.1,(⟨e48.2.1.2.1.2.2.2.2.2.2.1,e48.2.1.2.1.2.2.2.2.2.2.2.1,e48.2.1.2.1.2.2.2.2.2.2.2.2.1⟩:uL),e48.2.2.2.2.2.1⟩:qg),()))))
def Tf[dE] :=EW 226 Tryz.f226 Se UG (λx=>E0 x.1 x.2.1 x.2.2.1) [Fx,G3,Et,Fl,J2] [Ry] (by kernel_rfl) λx=>by simp only[E0,tm];kernel_rfl
abbrev ML:LX:=⟨⟨[Kz,MS,MA,OB,Vt,Ox],[JA,Xx],Yy,0,74⟩,[(.ext 0,⟨[MA],[],IB,0,74⟩)],[],[1,2,5,6,7,8],[5]⟩
def FS(s:Yo×(MT×Qx×Unit)×List Int×List Int×List Int×Unit):ML.R:=
 br (decide (s.1.2.2.2.2.2.1< (s.2.2.2.1.length:Int))) (br s.1.2.2.2.2.1 ((Ee (⟨s.2.1.1.1,s.2.1.1.2.1,s.2.1.1.2.2.1,(⟨s.2.1.1.2.2.2.1,s.2.1.1.2.2.2.2.1⟩:jY),s.2.1.1.2.2.2.2.2.1,(⟨s.2.1.1.2.2.2.2.2.2.1,s.2.1.1.2.2.2.2.2.2.2.1,s.2.1.1.2.2.2.2.2.2.2.2.1⟩:uL),s.2.1.1.2.2.2.2.2.2.2.2.2.1⟩:qg)).bind λy20=>br y20.1 ((Em s.1.1 0 4).bind λy21=>br y21.1 (iteP (0<=s.1.2.2.2.2.2.1/\s.1.2.2.2.2.2.1< (s.2.2.2.1.length:Int)) ((s.2.2.2.1[s.1.2.2.2.2.2.1.toNat]?).bind λx22=>iteP (0<=x22) ((s.2.1.1.2.1[x22.toNat]?).bind λx23=>let j28 (p27:List Int):ML.R:=some (.inl ((s.1.1,(),(),(),s.1.2.2.2.2.1,(IntKind.wrap .i64 (s.1.2.2.2.2.2.1+1)),()),s.2.1,p27,s.2.2.2));br x23.up (br (x23.config.epoch==s.2.1.2.1.1) (iteP (0<=s.1.2.2.2.2.2.1/\s.1.2.2.2.2.2.1< (s.2.2.2.1.length:Int)) ((s.2.2.2.1[s.1.2.2.2.2.2.1.toNat]?).bind λx24=>(ES s.2.1.1.2.2.1 s.1.1 x24).bind λy25=>br y25.1 (iteP (0<=s.1.2.2.2.2.2.1/\s.1.2.2.2.2.2.1< (s.2.2.2.1.length:Int)) ((s.2.2.2.1[s.1.2.2.2.2.2.1.toNat]?).bind λx26=>iteP ((s.2.2.1++([x26]:List Int)).length*8<=2 ^ 40) (j28 (s.2.2.1++([x26]:List Int))) none) none) (j28 s.2.2.1)) none) (j28 s.2.2.1)) (j28 s.2.2.1)) none) none) (some (.inr (((),()),(()),s.2.2.1,())))) (some (.inr (((),()),(()),s.2.2.1,())))) (some (.inr (((),()),(()),s.2.2.1,())))) (some (.inr (((),()),(()),s.2.2.1,())))
def Kr:=nx FS
def SD[dE] :=Il Tryz.f16 [0] ML FS [Et,Fl,KP] [] (by kernel_rfl) λs=>by simp only[FS,tm];kernel_rfl
def Fn(a0:qg)(a1:Int):Option ((List Int)×Unit):=
 (Ej a0.master).bind λy1=>(Kr ((a1,(),(),(),y1.2.1,0,()),((a0.now,a0.servers,a0.sides,a0.master.configs,a0.master.activated,a0.masterUp,a0.lease.epoch,a0.lease.holder,a0.lease.ends,a0.places,()),(y1.1.epoch,y1.1.primary,(),(),()),()),([]:List Int),y1.1.replicas,y1.1.witnesses,())).bind λe29=>some e29.2.2
def P0[dE] :=EW 16 Tryz.f16 LD L7 (λx=>Fn x.1 x.2.1) [G3] [SD] (by kernel_rfl) λx=>by simp only[Fn,tm];kernel_rfl
abbrev OJ:LX:=⟨⟨[MS,NF,WP,OA],[JA],IB,0,44⟩,[(.ext 0,⟨[NF],[],[],0,44⟩)],[],[2,5,6,7],[5]⟩
def F8(s:aao×(MT×Unit)×List Int×Unit):OJ.R:=
 br (decide (s.1.2.2.2.1< (s.2.2.1.length:Int))) (br (decide (s.1.2.1<0)) (iteP (0<=s.1.2.2.2.1/\s.1.2.2.2.1< (s.2.2.1.length:Int)) ((s.2.2.1[s.1.2.2.2.1.toNat]?).bind λx15=>some (.inl (((),x15,(),(IntKind.wrap .i64 (s.1.2.2.2.1+1)),()),s.2))) none) (iteP (0<=s.1.2.2.2.1/\s.1.2.2.2.1< (s.2.2.1.length:Int)) ((s.2.2.1[s.1.2.2.2.1.toNat]?).bind λx16=>iteP (0<=x16) ((s.2.1.1.2.1[x16.toNat]?).bind λx17=>iteP (0<=s.1.2.1) ((s.2.1.1.2.1[s.1.2.1.toNat]?).bind λx18=>br (decide ((x17.log.length:Int)>(x18.log.length:Int))) (iteP (0<=s.1.2.2.2.1/\s.1.2.2.2.1< (s.2.2.1.length:Int)) ((s.2.2.1[s.1.2.2.2.1.toNat]?).bind λx19=>some (.inl (((),x19,(),(IntKind.wrap .i64 (s.1.2.2.2.1+1)),()),s.2))) none) (some (.inl (((),s.1.2.1,(),(IntKind.wrap .i64 (s.1.2.2.2.1+1)),()),s.2)))) none) none) none)) (some (.inr ((s.1.2.1,()),(()),(()))))
def Mu:=nx F8
def Sy[dE] :=Il Tryz.f257 [0] OJ F8 [] [] (by kernel_rfl) λs=>by simp only[F8,tm];kernel_rfl
def FK(a0:qg)(a1:Int):Option (Int×Unit):=
 (Fn a0 a1).bind λy1=>(Mu (((),(-1),(),0,()),((a0.now,a0.servers,a0.sides,a0.master.configs,a0.master.activated,a0.masterUp,a0.lease.epoch,a0.lease.holder,a0.lease.ends,a0.places,()),()),y1.1,())).bind λe21=>some e21.1
def Uk[dE] :=EW 257 Tryz.f257 LD JR (λx=>FK x.1 x.2.1) [P0] [Sy] (by kernel_rfl) λx=>by simp only[FK,tm];kernel_rfl
def HA(a0:qj)(a1:Int):Option ((List rk)×Unit):=
 (EP a0.config a1).bind λy1=>(FT a0.learned).bind λy2=>br (y1.1==1) ((EB a0).bind λy3=>br (decide ((y3.1.length:Int)>(y2.1.length:Int))) (some (y3.1,())) (some (y2.1,()))) (br (y1.1==2) ((EB a0).bind λy4=>br (decide ((y4.1.length:Int)>(y2.1.length:Int))) (some (y4.1,())) (some (y2.1,()))) (some (y2.1,())))
def Xq[dE] :=EW 69 Tryz.f69 UE Wm (λx=>HA x.1 x.2.1) [Nx,Ki,IJ] [] (by kernel_rfl) λx=>by simp only[HA,tm];kernel_rfl
def Ma(a0:Int)(a1:List rk):Option (Bool×Unit):=
 (ET a1).bind λy1=>br y1.1 (br (decide ((a1.length:Int)<=3)) ((Em a0 0 (IntKind.wrap .i64 (16-(a1.length:Int)))).bind λy2=>br y2.1 (br (a0==0) (some (true,())) (some (((a1.length:Int)==3),()))) (some (false,()))) (some (false,()))) (some (false,()))
def Xp[dE] :=EW 136 Tryz.f136 Z4 [.b] (λx=>Ma x.1 x.2.1) [L4,Fl] [] (by kernel_rfl) λx=>by simp only[Ma,tm];kernel_rfl
abbrev NH:LX:=⟨⟨[MB,Yh,NF],[],[],0,30⟩,[(.ext 0,⟨[NF],[],[],0,30⟩)],[],[0,1,5],[5]⟩
def Gy(s:aap×Unit×Unit):NH.R:=
 br (decide (s.1.2.2.1< (s.1.1.length:Int))) (br (decide (s.1.2.2.1< (s.1.2.1.length:Int))) (iteP (0<=s.1.2.2.1) ((s.1.1[s.1.2.2.1.toNat]?).bind λx4=>iteP (0<=s.1.2.2.1) ((s.1.2.1[s.1.2.2.1.toNat]?).bind λx5=>br ((x4.epoch==x5.epoch)&&((x4.op.client==x5.op.client)&&((x4.op.seq==x5.op.seq)&&((x4.op.kind==x5.op.kind)&&((x4.op.object==x5.op.object)&&((x4.op.old==x5.op.old)&&((x4.op.value==x5.op.value)&&true))))))) (some (.inl ((s.1.1,s.1.2.1,(IntKind.wrap .i64 (s.1.2.2.1+1)),()),(()),(())))) (some (.inr (s.1.2.2,(()),(()))))) none) none) (some (.inr (s.1.2.2,(()),(()))))) (some (.inr (s.1.2.2,(()),(()))))
def KS:=nx Gy
def QB[dE] :=Il Tryz.f137 [0] NH Gy [] [] (by kernel_rfl) λs=>by simp only[Gy,tm];kernel_rfl
def GO(a0:List rk)(a1:List rk):Option (Int×Unit):=
 (KS ((a0,a1,0,()),(()),(()))).bind λe6=>some e6.1
def RU[dE] :=EW 137 Tryz.f137 WO JR (λx=>GO x.1 x.2.1) [] [QB] (by kernel_rfl) λx=>by simp only[GO,tm];kernel_rfl
def Gd(a0:List rk)(a1:Int)(a2:List rk):Option ((List rk)×Bool×Unit):=
 (ET a0).bind λy1=>br (!y1.1) (some (([]:List rk),false,())) ((Ma a1 a2).bind λy2=>br (!y2.1) (some (([]:List rk),false,())) (br (decide (a1>(a0.length:Int))) (some (([]:List rk),false,())) (iteP (0<=a1/\a1<=(a0.length:Int)/\(a0.length:Int)<=(a0.length:Int)) ((GO ((a0.drop a1.toNat).take ((a0.length:Int).toNat-a1.toNat)) a2).bind λy3=>br (decide (y3.1< (if (a2.length:Int)< (IntKind.wrap .i64 ((a0.length:Int)-a1)) then (a2.length:Int) else (IntKind.wrap .i64 ((a0.length:Int)-a1))))) (some (([]:List rk),false,())) ((FT a0).bind λy4=>iteP (0<=y3.1/\y3.1<=(a2.length:Int)/\(a2.length:Int)<=(a2.length:Int)) (iteP ((y4.1++((a2.drop y3.1.toNat).take ((a2.length:Int).toNat-y3.1.toNat))).length*56<=2 ^ 40) ((ET (y4.1++((a2.drop y3.1.toNat).take ((a2.length:Int).toNat-y3.1.toNat)))).bind λy5=>br (!y5.1) (some (([]:List rk),false,())) (some ((y4.1++((a2.drop y3.1.toNat).take ((a2.length:Int).toNat-y3.1.toNat))),true,()))) none) none)) none)))
def V8[dE] :=EW 68 Tryz.f68 Z5 Xw (λx=>Gd x.1 x.2.1 x.2.2.1) [L4,Xp,RU,Ki] [] (by kernel_rfl) λx=>by simp only[Gd,tm];kernel_rfl
abbrev LJ:LX:=⟨⟨[Kz,MS,TN,Vt,Yi,Pd,Si,(11,.cl (.ptr 2 0)),Pe],[JA,Xx,Yv],Xz,0,121⟩,[(.ext 2,⟨[Kz,MS,TN,Vt,Yi,Pd,Si],[JA,Xx],Xz,0,121⟩)],[],[1,2,6,7,8,9,10,11,12],[1,2,6,7,8,9,10]⟩
def FG(s: (Int×Unit×Unit×Bool×Unit×Bool×Int×Unit×Int×Unit)×(MT×Qx×Yp×Unit)×List rk×List Int×List Int×Unit):LJ.R:=
 br (decide (s.1.2.2.2.2.2.2.2.2.1<5)) (iteP (0<=s.1.2.2.2.2.2.2.2.2.1) ((s.2.1.1.2.1[s.1.2.2.2.2.2.2.2.2.1.toNat]?).bind λx59=>let j66 (p64:List rk) (p65:Bool):LJ.R:=some (.inl ((s.1.1,(),(),p65,(),s.1.2.2.2.2.2.1,s.1.2.2.2.2.2.2.1,(),(IntKind.wrap .i64 (s.1.2.2.2.2.2.2.2.2.1+1)),()),s.2.1,p64,s.2.2.2));br (!x59.up) (j66 s.2.2.1 s.1.2.2.2.1) ((ES s.2.1.1.2.2.1 s.1.1 s.1.2.2.2.2.2.2.2.2.1).bind λy60=>br (!y60.1) (j66 s.2.2.1 s.1.2.2.2.1) (iteP (0<=s.1.2.2.2.2.2.2.2.2.1) ((s.2.1.1.2.1[s.1.2.2.2.2.2.2.2.2.1.toNat]?).bind λx61=>(HA x61 s.1.2.2.2.2.2.2.2.2.1).bind λy62=>(Gd y62.1 s.2.1.2.2.1.2.2.2.2.2.2.2.2.1 s.2.1.2.2.1.2.2.2.2.2.2.2.2.2.1).bind λy63=>br y63.2.1 (br (!s.1.2.2.2.1) (j66 y63.1 true) (br (decide ((y63.1.length:Int)>(s.2.2.1.length:Int))) (j66 y63.1 true) (j66 s.2.2.1 s.1.2.2.2.1))) (j66 s.2.2.1 s.1.2.2.2.1)) none))) none) (some (.inr ((s.1.1,(),(),s.1.2.2.2.1,(),s.1.2.2.2.2.2.1,s.1.2.2.2.2.2.2.1,()),(s.2.1.1,s.2.1.2.1,()),s.2.2)))
def IL:=nx FG
def Rz[dE] :=Il Tryz.f23 [0,0] LJ FG [KP,Xq,V8] [] (by kernel_rfl) λs=>by simp only[FG,tm];kernel_rfl
abbrev OO:LX:=⟨⟨[Kz,MS,TN,Vt,Yi,Pd,Si],[JA,Xx],Xz,0,121⟩,[(.ext 0,⟨[TN,Vt],[],Zz,0,121⟩)],[],[1,2,6,7,8,9,10],[6,7]⟩
def Fv(s: (Int×Unit×Unit×Bool×Unit×Bool×Int×Unit)×(MT×Qx×Unit)×List rk×List Int×List Int×Unit):OO.R:=
 br (decide (s.1.2.2.2.2.2.2.1< (s.2.2.2.2.1.length:Int))) (br s.1.2.2.2.2.2.1 ((Ee (⟨s.2.1.1.1,s.2.1.1.2.1,s.2.1.1.2.2.1,(⟨s.2.1.1.2.2.2.1,s.2.1.1.2.2.2.2.1⟩:jY),s.2.1.1.2.2.2.2.2.1,(⟨s.2.1.1.2.2.2.2.2.2.1,s.2.1.1.2.2.2.2.2.2.2.1,s.2.1.1.2.2.2.2.2.2.2.2.1⟩:uL),s.2.1.1.2.2.2.2.2.2.2.2.2.1⟩:qg)).bind λy21=>br y21.1 ((Em s.1.1 0 4).bind λy22=>br y22.1 (iteP (0<=s.1.2.2.2.2.2.2.1/\s.1.2.2.2.2.2.2.1< (s.2.2.2.2.1.length:Int)) ((s.2.2.2.2.1[s.1.2.2.2.2.2.2.1.toNat]?).bind λx23=>iteP (0<=x23) ((s.2.1.1.2.1[x23.toNat]?).bind λx24=>br (!x24.up) (some (.inl ((s.1.1,(),(),s.1.2.2.2.1,(),s.1.2.2.2.2.2.1,(IntKind.wrap .i64 (s.1.2.2.2.2.2.2.1+1)),()),s.2))) (br (!(x24.config.epoch==s.2.1.2.1.1)) (some (.inl ((s.1.1,(),(),s.1.2.2.2.1,(),s.1.2.2.2.2.2.1,(IntKind.wrap .i64 (s.1.2.2.2.2.2.2.1+1)),()),s.2))) (iteP (0<=s.1.2.2.2.2.2.2.1/\s.1.2.2.2.2.2.2.1< (s.2.2.2.2.1.length:Int)) ((s.2.2.2.2.1[s.1.2.2.2.2.2.2.1.toNat]?).bind λx25=>(ES s.2.1.1.2.2.1 s.1.1 x25).bind λy26=>br (!y26.1) (some (.inl ((s.1.1,(),(),s.1.2.2.2.1,(),s.1.2.2.2.2.2.1,(IntKind.wrap .i64 (s.1.2.2.2.2.2.2.1+1)),()),s.2))) ((IL ((s.1.1,(),(),s.1.2.2.2.1,(),s.1.2.2.2.2.2.1,s.1.2.2.2.2.2.2.1,(),0,()),(s.2.1.1,s.2.1.2.1,(x24.up,x24.intact,x24.version,x24.epoch,x24.config.epoch,x24.config.primary,x24.config.replicas,x24.config.witnesses,x24.first,x24.log,x24.commit,x24.learned,()),()),s.2.2)).bind λe67=>some (.inl ((e67.1.1,(),(),e67.1.2.2.2.1,(),e67.1.2.2.2.2.2.1,(IntKind.wrap .i64 (e67.1.2.2.2.2.2.2.1+1)),()),e67.2)))) none))) none) none) (some (.inr (((),s.1.2.2.2.1,()),(()),s.2.2.1,())))) (some (.inr (((),s.1.2.2.2.1,()),(()),s.2.2.1,())))) (some (.inr (((),s.1.2.2.2.1,()),(()),s.2.2.1,())))) (some (.inr (((),s.1.2.2.2.1,()),(()),s.2.2.1,())))
def Ks:=nx Fv
def SE[dE] :=Il Tryz.f23 [0] OO Fv [Et,Fl,KP] [Rz] (by kernel_rfl) λs=>by simp only[Fv,tm];kernel_rfl
def Fo(a0:qg)(a1:Int):Option ((List rk)×Bool×Unit):=
 (Ej a0.master).bind λy1=>(Ks ((a1,(),(),false,(),y1.2.1,0,()),((a0.now,a0.servers,a0.sides,a0.master.configs,a0.master.activated,a0.masterUp,a0.lease.epoch,a0.lease.holder,a0.lease.ends,a0.places,()),(y1.1.epoch,y1.1.primary,(),(),()),()),([]:List rk),y1.1.replicas,y1.1.witnesses,())).bind λe87=>some (e87.2.2.1,e87.1.2)
def Ux[dE] :=EW 23 Tryz.f23 LD Xw (λx=>Fo x.1 x.2.1) [G3] [SE] (by kernel_rfl) λx=>by simp only[Fo,tm];kernel_rfl
def Fy(a0:qg)(a1:Int):Option ((List rk)×Bool×Unit):=
 (Ee a0).bind λy1=>br (!y1.1) (some (([]:List rk),false,())) ((Em a1 0 4).bind λy2=>br (!y2.1) (some (([]:List rk),false,())) (br (a0.master.activated==0) (some (([]:List rk),true,())) ((FK a0 a1).bind λy3=>br (decide (y3.1≥0)) (iteP (0<=y3.1) ((a0.servers[y3.1.toNat]?).bind λx4=>(FT x4.log).bind λy5=>some (y5.1,true,())) none) ((Fo a0 a1).bind λy6=>some (y6.1,y6.2.1,())))))
def Vf[dE] :=EW 227 Tryz.f227 LD Xw (λx=>Fy x.1 x.2.1) [Et,Fl,Uk,Ki,Ux] [] (by kernel_rfl) λx=>by simp only[Fy,tm];kernel_rfl
abbrev NL:LX:=⟨⟨[MB,Ng],[],[],0,16⟩,[(.ret,⟨[M3],[],[],0,16⟩),(.ext 0,⟨[O2],[],[],0,16⟩)],[],[0,3],[2]⟩
def GA(s:aam×Unit×Unit):NL.R:=
 br (decide (s.1.2.1< (s.1.1.length:Int))) (iteP (0<=s.1.2.1) ((s.1.1[s.1.2.1.toNat]?).bind λx3=>(HS x3.op).bind λy4=>br y4.1 (some (.inr (.inl ((true,()),(()),(()))))) (some (.inl ((s.1.1,(IntKind.wrap .i64 (s.1.2.1+1)),()),(()),(()))))) none) (some (.inr (.inr (((),()),(()),(())))))
def KU:=nx GA
def QF[dE] :=Il Tryz.f228 [0] NL GA [O7] [] (by kernel_rfl) λs=>by simp only[GA,tm];kernel_rfl
def EX(a0:List rk):Option (Bool×Unit):=
 (KU ((a0,0,()),(()),(()))).bind λe5=>Sum.elim (λe5_0=>some e5_0.1) (λ_=>some (false,())) e5
def Ms[dE] :=EW 228 Tryz.f228 P6 [.b] (λx=>EX x.1) [] [QF] (by kernel_rfl) λx=>by simp only[EX,tm];kernel_rfl
def FI(a0:qj)(a1:nF)(a2:Int)(a3:List rk):Option (qj×Bool×Unit):=
 (EP a1 a2).bind λy1=>br (y1.1==0) ((Hz a0).bind λy2=>some (y2.1,false,())) ((ET a3).bind λy3=>br (!y3.1) ((Hz a0).bind λy4=>some (y4.1,false,())) ((Em a0.version 1 2).bind λy5=>br (!y5.1) ((Hz a0).bind λy6=>some (y6.1,false,())) ((Em a0.epoch 0 a1.epoch).bind λy7=>br (!y7.1) ((Hz a0).bind λy8=>some (y8.1,false,())) ((Hh a3).bind λy9=>br (decide (y9.1>a1.epoch)) ((Hz a0).bind λy10=>some (y10.1,false,())) (let j18:Option (qj×Bool×Unit):=(Hk a1).bind λy13=>(FT a3).bind λy14=>br (y1.1==3) (iteP (0<=(if (IntKind.wrap .i64 ((a3.length:Int)-3))>0 then (IntKind.wrap .i64 ((a3.length:Int)-3)) else 0)/\(if (IntKind.wrap .i64 ((a3.length:Int)-3))>0 then (IntKind.wrap .i64 ((a3.length:Int)-3)) else 0)<=(a3.length:Int)/\(a3.length:Int)<=(a3.length:Int)) ((FT ((a3.drop (if (IntKind.wrap .i64 ((a3.length:Int)-3))>0 then (IntKind.wrap .i64 ((a3.length:Int)-3)) else 0).toNat).take ((a3.length:Int).toNat-(if (IntKind.wrap .i64 ((a3.length:Int)-3))>0 then (IntKind.wrap .i64 ((a3.length:Int)-3)) else 0).toNat))).bind λy15=>some ((⟨a0.up,true,a0.version,a1.epoch,y13.1,(if (IntKind.wrap .i64 ((a3.length:Int)-3))>0 then (IntKind.wrap .i64 ((a3.length:Int)-3)) else 0),y15.1,(a3.length:Int),([]:List rk)⟩:qj),true,())) none) (some ((⟨a0.up,true,a0.version,a1.epoch,y13.1,0,y14.1,(a3.length:Int),([]:List rk)⟩:qj),true,()));br (a0.version==1) ((EX a3).bind λy11=>br y11.1 ((Hz a0).bind λy12=>some (y12.1,false,())) (j18)) (j18))))))
def Rb[dE] :=EW 199 Tryz.f199 Z6 Zu (λx=>FI x.1 x.2.1 x.2.2.1 x.2.2.2.1) [Nx,Qs,L4,Fl,Qt,Ms,Om,Ki] [] (by kernel_rfl) λx=>by simp only[FI,tm];kernel_rfl
def Fw(a0:jY)(a1:Int):Option (jY×Bool×Unit):=
 (KM a0).bind λy1=>(Er a0).bind λy2=>br (!y2.1) (some (y1.1,false,())) (br (!(a1==(a0.configs.length:Int))) (some (y1.1,false,())) (br (decide (a1<=a0.activated)) (some (y1.1,false,())) (some ((⟨y1.1.configs,a1⟩:jY),true,()))))
def Qn[dE] :=EW 197 Tryz.f197 WN Yr (λx=>Fw x.1 x.2.1) [Qr,La] [] (by kernel_rfl) λx=>by simp only[Fw,tm];kernel_rfl
abbrev Ph:LX:=⟨⟨[Kt,NE,QX,QY,QZ,Sj,Si],[JA,Lw,Sk,Ws],Wt,0,180⟩,[(.ret,⟨[Kt,NE,Ng,QX,QY,QZ,Sj],[JA,Sk,Sk,Ws],Wt,0,180⟩),(.ext 1,⟨[Kt,NE,(3,.cl (.dead)),QX,QY,QZ,Sj],[JA,Lw,Sk,Ws],Wt,0,180⟩)],[],[1,2,4,5,7,9,10],[1,2,3,4,5,7,9]⟩
def GI(s:Yq×(MT×LF×LF×Qx×Unit)×List rk×List Int×List qj×List Int×List nF×List uO×List Int×List Int×Unit):Ph.R:=
 br (decide (s.1.2.2.2.2.2.2.1< (s.2.2.2.1.length:Int))) (iteP (0<=s.1.2.2.2.2.2.2.1/\s.1.2.2.2.2.2.2.1< (s.2.2.2.1.length:Int)) ((s.2.2.2.1[s.1.2.2.2.2.2.2.1.toNat]?).bind λx43=>iteP (0<=x43) ((s.2.1.1.2.1[x43.toNat]?).bind λx44=>br (!x44.up) (some (.inr (.inl (((),(),10,(),(),(),(),()),(s.2.1.1,s.2.1.2.2.1,s.2.1.2.2),s.2.2)))) (iteP (0<=s.1.2.2.2.2.2.2.1/\s.1.2.2.2.2.2.2.1< (s.2.2.2.1.length:Int)) ((s.2.2.2.1[s.1.2.2.2.2.2.2.1.toNat]?).bind λx45=>iteP (0<=x45) ((s.2.1.1.2.2.1[x45.toNat]?).bind λx46=>br (!(x46==0)) (some (.inr (.inl (((),(),10,(),(),(),(),()),(s.2.1.1,s.2.1.2.2.1,s.2.1.2.2),s.2.2)))) (some (.inl (((),(),(),(),(),(),(IntKind.wrap .i64 (s.1.2.2.2.2.2.2.1+1)),()),s.2)))) none) none)) none) none) (some (.inr (.inr (((),(),(),(),(),(),(),()),s.2))))
def Nc:=nx GI
def Tp[dE] :=Il Tryz.f170 [0] Ph GI [] [] (by kernel_rfl) λs=>by simp only[GI,tm];kernel_rfl
abbrev Nh:LX:=⟨⟨[Kt,NE,QX,QY,QZ,Sj,Sg],[JA,Lw,Sk,Ws],Wt,0,180⟩,[(.ret,⟨[Kt,NE,Ng,QX,QY,QZ,Sj],[JA,Sk,Sk,Ws],Wt,0,180⟩),(.ext 3,⟨[Kt,NE,(3,.cl (.dead)),QX,QY,QZ,Sj],[JA,Lw,Sk,Ws],Wt,0,180⟩)],[],[1,2,4,5,7,9,11],[1,2,3,4,5,7,9]⟩
def FF(s:Yq×(MT×LF×LF×Qx×Unit)×List rk×List Int×List qj×List Int×List nF×List uO×List Int×List Int×Unit):Nh.R:=
 br (decide (s.1.2.2.2.2.2.2.1< (s.2.2.2.1.length:Int))) (iteP (0<=s.1.2.2.2.2.2.2.1/\s.1.2.2.2.2.2.2.1< (s.2.2.2.1.length:Int)) ((s.2.2.2.1[s.1.2.2.2.2.2.2.1.toNat]?).bind λx81=>iteP (0<=x81) ((s.2.1.1.2.1[x81.toNat]?).bind λx82=>let j84:Nh.R:=some (.inl (((),(),(),(),(),(),(IntKind.wrap .i64 (s.1.2.2.2.2.2.2.1+1)),()),s.2));br (x82.version==1) ((EX s.2.2.1).bind λy83=>br y83.1 (some (.inr (.inl (((),(),6,(),(),(),(),()),(s.2.1.1,s.2.1.2.2.1,s.2.1.2.2),s.2.2)))) (j84)) (j84)) none) none) (some (.inr (.inr (((),(),(),(),(),(),(),()),s.2))))
def IW:=nx FF
def Tq[dE] :=Il Tryz.f170 [1] Nh FF [Ms] [] (by kernel_rfl) λs=>by simp only[FF,tm];kernel_rfl
abbrev Pi:LX:=⟨⟨[Kt,NE,QX,QY,QZ,Sj,Pe],[JA,Lw,Sk,Ws],Wt,0,180⟩,[(.ext 5,⟨[Kt,NE,QX,QY],[JA,Lw,Vu,[.int .i64,.int .i64,.own 4 (.i .i64),.own 5 (.i .i64)]],[.st .server,.i .i64,.st .config,.st .place,.i .i64,.i .i64],0,180⟩)],[],[1,2,4,5,7,9,12],[1,2,4,5]⟩
def G7(s:Yq×(MT×LF×LF×Qx×Unit)×List rk×List Int×List qj×List Int×List nF×List uO×List Int×List Int×Unit):Pi.R:=
 br (decide (s.1.2.2.2.2.2.2.1< (s.2.2.2.1.length:Int))) (iteP (0<=s.1.2.2.2.2.2.2.1/\s.1.2.2.2.2.2.2.1< (s.2.2.2.1.length:Int)) ((s.2.2.2.1[s.1.2.2.2.2.2.2.1.toNat]?).bind λx119=>iteP (0<=s.1.2.2.2.2.2.2.1/\s.1.2.2.2.2.2.2.1< (s.2.2.2.1.length:Int)) ((s.2.2.2.1[s.1.2.2.2.2.2.2.1.toNat]?).bind λx120=>iteP (0<=x120/\x120< (s.2.2.2.2.1.length:Int)) ((s.2.2.2.2.1[x120.toNat]?).bind λx121=>iteP (0<=s.1.2.2.2.2.2.2.1/\s.1.2.2.2.2.2.2.1< (s.2.2.2.1.length:Int)) ((s.2.2.2.1[s.1.2.2.2.2.2.2.1.toNat]?).bind λx122=>(s.2.2.2.2.1[x120.toNat]?).bind λx123=>iteP (0+x121.config.replicas.length<=x123.config.replicas.length) ((s.2.2.2.2.1[x120.toNat]?).bind λx124=>iteP (0+x121.config.witnesses.length<=x124.config.witnesses.length) ((s.2.2.2.2.1[x120.toNat]?).bind λx125=>iteP (0+x121.log.length<=x125.log.length) ((s.2.2.2.2.1[x120.toNat]?).bind λx126=>iteP (0+x121.learned.length<=x126.learned.length) ((FI (⟨x121.up,x121.intact,x121.version,x121.epoch,(⟨x121.config.epoch,x121.config.primary,((x123.config.replicas.drop 0).take x121.config.replicas.length),((x124.config.witnesses.drop 0).take x121.config.witnesses.length)⟩:nF),x121.first,((x125.log.drop 0).take x121.log.length),x121.commit,((x126.learned.drop 0).take x121.learned.length)⟩:qj) (⟨s.2.1.2.2.2.1.1,s.2.1.2.2.2.1.2.1,s.2.2.2.2.2.2.2.2.1,s.2.2.2.2.2.2.2.2.2.1⟩:nF) x122 s.2.2.1).bind λy127=>iteP (0<=x119/\x119< (s.2.2.2.2.1.length:Int)) ((s.2.2.2.2.1[x119.toNat]?).bind λ_=>some (.inl (((),(),(),(),(),(),(IntKind.wrap .i64 (s.1.2.2.2.2.2.2.1+1)),()),s.2.1,s.2.2.1,s.2.2.2.1,(s.2.2.2.2.1.set x119.toNat y127.1),s.2.2.2.2.2))) none) none) none) none) none) none) none) none) none) (some (.inr (((),(),(),(),()),s.2.1,s.2.2.2.2)))
def Lb:=nx G7
def Ts[dE] :=Il Tryz.f170 [2] Pi G7 [Rb] [] (by kernel_rfl) λs=>by simp only[G7,tm];kernel_rfl
def Ga(a0:qg):Option (qg×Int×Unit):=
 (Fa a0).bind λy1=>(Ge a0.master).bind λy2=>(Ee a0).bind λy3=>br (!y3.1) (some (y1.1,1,())) (br (!y2.2.1) (some (y1.1,1,())) (br (y2.1.epoch==a0.master.activated) (some (y1.1,1,())) (br (decide ((IntKind.wrap .i64 (a0.masterUp*2))<=3)) (some (y1.1,8,())) (iteP (0<=y2.1.primary) ((a0.servers[y2.1.primary.toNat]?).bind λx4=>br (!x4.up) (some (y1.1,2,())) (iteP (0<=y2.1.primary) ((a0.sides[y2.1.primary.toNat]?).bind λx5=>br (!(x5==0)) (some (y1.1,10,())) ((HT a0.lease a0.now).bind λy6=>br (!y6.1) (some (y1.1,7,())) ((E0 a0 y2.1.primary y2.1.epoch).bind λy7=>(Fy a0 y2.1.primary).bind λy8=>br (!y8.2.1) (some (y7.1,9,())) ((EO y2.1).bind λy9=>(Nc (((),(),(),(),(),(),0,()),((a0.now,a0.servers,a0.sides,a0.master.configs,a0.master.activated,a0.masterUp,a0.lease.epoch,a0.lease.holder,a0.lease.ends,a0.places,()),(0,(),(),(),0,0,0,0,0,(),()),(y7.1.now,(),(),(),y7.1.master.activated,y7.1.masterUp,y7.1.lease.epoch,y7.1.lease.holder,y7.1.lease.ends,(),()),(y2.1.epoch,y2.1.primary,(),(),()),()),y8.1,y9.1,y7.1.servers,y7.1.sides,y7.1.master.configs,y7.1.places,y2.1.replicas,y2.1.witnesses,())).bind λe47=>Sum.elim (λe47_0=>some ((⟨e47_0.2.1.2.1.1,e47_0.2.2.2.2.1,e47_0.2.2.2.2.2.1,(⟨e47_0.2.2.2.2.2.2.1,e47_0.2.1.2.1.2.2.2.2.1⟩:jY),e47_0.2.1.2.1.2.2.2.2.2.1,(⟨e47_0.2.1.2.1.2.2.2.2.2.2.1,e47_0.2.1.2.1.2.2.2.2.2.2.2.1,e47_0.2.1.2.1.2.2.2.2.2.2.2.2.1⟩:uL),e47_0.2.2.2.2.2.2.2.1⟩:qg),e47_0.1.2.2.1,())) (λe47_1=>(IW (((),(),(),(),(),(),0,()),e47_1.2)).bind λe85=>Sum.elim (λe85_0=>some ((⟨e85_0.2.1.2.1.1,e85_0.2.2.2.2.1,e85_0.2.2.2.2.2.1,(⟨e85_0.2.2.2.2.2.2.1,e85_0.2.1.2.1.2.2.2.2.1⟩:jY),e85_0.2.1.2.1.2.2.2.2.2.1,(⟨e85_0.2.1.2.1.2.2.2.2.2.2.1,e85_0.2.1.2.1.2.2.2.2.2.2.2.1,e85_0.2.1.2.1.2.2.2.2.2.2.2.2.1⟩:uL),e85_0.2.2.2.2.2.2.2.1⟩:qg),e85_0.1.2.2.1,())) (λe85_1=>(Lb (((),(),(),(),(),(),0,()),e85_1.2)).bind λe130=>(Fw (⟨e130.2.1.1.2.2.2.1,e130.2.1.1.2.2.2.2.1⟩:jY) e130.2.1.2.2.2.1.1).bind λy131=>some ((⟨e130.2.1.2.2.1.1,e130.2.2.1,e130.2.2.2.1,y131.1,e130.2.1.2.2.1.2.2.2.2.2.1,(⟨0,0,0⟩:uL),e130.2.2.2.2.2.1⟩:qg),0,())) e85) e47)))) none)) none))))
def Px[dE] :=EW 170 Tryz.f170 Sd OC (λx=>Ga x.1) [Fx,Uo,Et,O8,Tf,Vf,J2,Qn] [Tp,Tq,Ts] (by kernel_rfl) λx=>by simp only[Ga,tm];kernel_rfl
def HB(a0:qg)(a1:Int):Option (Bool×Unit):=
 (Ee a0).bind λy1=>br y1.1 ((Em a1 0 4).bind λy2=>some (y2.1,())) (some (false,()))
def Nz[dE] :=EW 229 Tryz.f229 LD [.b] (λx=>HB x.1 x.2.1) [Et,Fl] [] (by kernel_rfl) λx=>by simp only[HB,tm];kernel_rfl
def HQ(a0:qg)(a1:Int):Option (qg×Int×Unit):=
 (Fa a0).bind λy1=>(HB a0 a1).bind λy2=>br (!y2.1) (some (y1.1,1,())) (iteP (0<=a1) ((a0.servers[a1.toNat]?).bind λx3=>br (!x3.up) (some (y1.1,2,())) (iteP (0<=a1/\a1< (y1.1.servers.length:Int)) ((y1.1.servers[a1.toNat]?).bind λx4=>some ((⟨y1.1.now,(y1.1.servers.set a1.toNat (⟨false,x4.intact,x4.version,x4.epoch,x4.config,x4.first,x4.log,x4.commit,x4.learned⟩:qj)),y1.1.sides,y1.1.master,y1.1.masterUp,y1.1.lease,y1.1.places⟩:qg),0,())) none)) none)
def Tb[dE] :=EW 171 Tryz.f171 LD OC (λx=>HQ x.1 x.2.1) [Fx,Nz] [] (by kernel_rfl) λx=>by simp only[HQ,tm];kernel_rfl
def G0(a0:qg)(a1:Int):Option (qg×Int×Unit):=
 (Fa a0).bind λy1=>(HB a0 a1).bind λy2=>br (!y2.1) (some (y1.1,1,())) (iteP (0<=a1) ((a0.servers[a1.toNat]?).bind λx3=>br x3.up (some (y1.1,1,())) (iteP (0<=a1/\a1< (y1.1.servers.length:Int)) ((y1.1.servers[a1.toNat]?).bind λx4=>some ((⟨y1.1.now,(y1.1.servers.set a1.toNat (⟨true,x4.intact,x4.version,x4.epoch,x4.config,x4.first,x4.log,x4.commit,x4.learned⟩:qj)),y1.1.sides,y1.1.master,y1.1.masterUp,y1.1.lease,y1.1.places⟩:qg),0,())) none)) none)
def Re[dE] :=EW 172 Tryz.f172 LD OC (λx=>G0 x.1 x.2.1) [Fx,Nz] [] (by kernel_rfl) λx=>by simp only[G0,tm];kernel_rfl
def LW(a0:qj):Option (qj×Unit):=
 some ((⟨a0.up,false,a0.version,0,(⟨0,0,([]:List Int),([]:List Int)⟩:nF),0,([]:List rk),0,([]:List rk)⟩:qj),())
def Uw[dE] :=EW 230 Tryz.f230 TJ Zt (λx=>LW x.1) [] [] (by kernel_rfl) λx=>by simp only[LW,tm];kernel_rfl
def JM(a0:qg)(a1:Int):Option (qg×Int×Unit):=
 (Fa a0).bind λy1=>(HB a0 a1).bind λy2=>br (!y2.1) (some (y1.1,1,())) (iteP (0<=a1) ((a0.servers[a1.toNat]?).bind λx3=>(LW x3).bind λy4=>iteP (0<=a1/\a1< (y1.1.servers.length:Int)) ((y1.1.servers[a1.toNat]?).bind λ_=>some ((⟨y1.1.now,(y1.1.servers.set a1.toNat y4.1),y1.1.sides,y1.1.master,y1.1.masterUp,y1.1.lease,y1.1.places⟩:qg),0,())) none) none)
def V9[dE] :=EW 173 Tryz.f173 LD OC (λx=>JM x.1 x.2.1) [Fx,Nz,Uw] [] (by kernel_rfl) λx=>by simp only[JM,tm];kernel_rfl
def JN(a0:List Int)(a1:Int)(a2:Int):Option ((List Int)×Bool×Unit):=
 iteP ((([]:List Int)++a0).length*8<=2 ^ 40) ((Fu a0).bind λy1=>br (!y1.1) (some ((([]:List Int)++a0),false,())) ((Em a1 0 4).bind λy2=>br (!y2.1) (some ((([]:List Int)++a0),false,())) ((Em a2 0 3).bind λy3=>br (!y3.1) (some ((([]:List Int)++a0),false,())) (iteP (0<=a1/\a1< ((([]:List Int)++a0).length:Int)) (((([]:List Int)++a0)[a1.toNat]?).bind λ_=>some (((([]:List Int)++a0).set a1.toNat a2),true,())) none)))) none
def Wa[dE] :=EW 231 Tryz.f231 Yd [.ls (.i .i64),.b] (λx=>JN x.1 x.2.1 x.2.2.1) [NV,Fl] [] (by kernel_rfl) λx=>by simp only[JN,tm];kernel_rfl
def Ix(a0:qg)(a1:Int)(a2:Int):Option (qg×Int×Unit):=
 (Fa a0).bind λy1=>(JN a0.sides a1 a2).bind λy2=>(Ee a0).bind λy3=>br (!y3.1) (some (y1.1,1,())) (br (!y2.2.1) (some (y1.1,1,())) (some ((⟨y1.1.now,y1.1.servers,y2.1,y1.1.master,y1.1.masterUp,y1.1.lease,y1.1.places⟩:qg),0,())))
def Uq[dE] :=EW 174 Tryz.f174 Se OC (λx=>Ix x.1 x.2.1 x.2.2.1) [Fx,Wa,Et] [] (by kernel_rfl) λx=>by simp only[Ix,tm];kernel_rfl
def Iz(a0:qg)(a1:Int):Option (qg×Int×Unit):=
 (Fa a0).bind λy1=>(Ee a0).bind λy2=>br (!y2.1) (some (y1.1,1,())) ((Em a1 0 3).bind λy3=>br (!y3.1) (some (y1.1,1,())) (some ((⟨y1.1.now,y1.1.servers,y1.1.sides,y1.1.master,a1,y1.1.lease,y1.1.places⟩:qg),0,())))
def Uv[dE] :=EW 175 Tryz.f175 LD OC (λx=>Iz x.1 x.2.1) [Fx,Et,Fl] [] (by kernel_rfl) λx=>by simp only[Iz,tm];kernel_rfl
def I9(a0:qg)(a1:Int):Option (qg×Int×Unit):=
 (Fa a0).bind λy1=>(Ee a0).bind λy2=>br (!y2.1) (some (y1.1,1,())) ((Em a1 0 (IntKind.wrap .i64 (999-a0.now))).bind λy3=>br (!y3.1) (some (y1.1,1,())) (some ((⟨(IntKind.wrap .i64 (a0.now+a1)),y1.1.servers,y1.1.sides,y1.1.master,y1.1.masterUp,y1.1.lease,y1.1.places⟩:qg),0,())))
def RZ[dE] :=EW 176 Tryz.f176 LD OC (λx=>I9 x.1 x.2.1) [Fx,Et,Fl] [] (by kernel_rfl) λx=>by simp only[I9,tm];kernel_rfl
def J0(a0:qg)(a1:Int)(a2:Int):Option (Bool×Unit):=
 (Ee a0).bind λy1=>br (!y1.1) (some (false,())) ((ES a0.sides a1 a2).bind λy2=>br (!y2.1) (some (false,())) (br (a1==a2) (some (false,())) (iteP (0<=a1) ((a0.servers[a1.toNat]?).bind λx3=>(EP x3.config a1).bind λy4=>br x3.up (iteP (0<=a2) ((a0.servers[a2.toNat]?).bind λx5=>br x5.up (br (y4.1==1) (br (x3.config.epoch==a0.master.activated) ((EP x3.config a2).bind λy6=>some ((y6.1==0),())) (some (false,()))) (br (y4.1==2) (br (x3.config.epoch==a0.master.activated) ((EP x3.config a2).bind λy7=>some ((y7.1==0),())) (some (false,()))) (some (false,())))) (some (false,()))) none) (some (false,()))) none)))
def Vh[dE] :=EW 258 Tryz.f258 Se [.b] (λx=>J0 x.1 x.2.1 x.2.2.1) [Et,KP,Nx] [] (by kernel_rfl) λx=>by simp only[J0,tm];kernel_rfl
abbrev Ni:LX:=⟨⟨[(0,.cl (.int .i64)),WR,TL],[],[],0,31⟩,[(.ext 0,⟨[WR,TL],[],[],0,31⟩)],[],[0,3,4],[3,4]⟩
def K0(s: (Int×ByteArray×Bool×Unit)×Unit×Unit):Ni.R:=
 br (!(s.1.1==0)) (let j5 (p4:Int):Ni.R:=iteP (0< ([(IntKind.wrap .u8 (IntKind.wrap .i64 (48+p4)))]:List Int).length/\0+([(IntKind.wrap .u8 (IntKind.wrap .i64 (48+p4)))]:List Int).length<=([(IntKind.wrap .u8 (IntKind.wrap .i64 (48+p4)))]:List Int).length) (iteP ((Bu ((([(IntKind.wrap .u8 (IntKind.wrap .i64 (48+p4)))]:List Int).drop 0).take (([(IntKind.wrap .u8 (IntKind.wrap .i64 (48+p4)))]:List Int).length))).size+s.1.2.1.size<=2 ^ 40) (some (.inl (((IntKind.wrap .i64 (Int.tdiv s.1.1 10)),((Bu ((([(IntKind.wrap .u8 (IntKind.wrap .i64 (48+p4)))]:List Int).drop 0).take (([(IntKind.wrap .u8 (IntKind.wrap .i64 (48+p4)))]:List Int).length)))++s.1.2.1),s.1.2.2),(()),(())))) none) none;br (decide ((Int.tmod s.1.1 10)<0)) (j5 (IntKind.wrap .i64 (0-(Int.tmod s.1.1 10)))) (j5 (Int.tmod s.1.1 10))) (some (.inr (s.1.2,(()),(()))))
def Th:=nx K0
def Tv[dE] :=Il Tryz.f291 [0] Ni K0 [] [] (by kernel_rfl) λs=>by simp only[K0,tm];kernel_rfl
def Gp(a0:Int):Option (ByteArray×Unit):=
 br (a0==0) (some ((⟨⟨[48]⟩⟩:ByteArray),())) ((Th ((a0,ByteArray.empty,(decide (a0<0)),()),(()),(()))).bind λe6=>br e6.1.2.1 (iteP ((⟨⟨[45]⟩⟩:ByteArray).size+e6.1.1.size<=2 ^ 40) (some (((⟨⟨[45]⟩⟩:ByteArray)++e6.1.1),())) none) (some (e6.1.1,())))
def QP[dE] :=EW 291 Tryz.f291 Vo [.s] (λx=>Gp x.1) [] [Tv] (by kernel_rfl) λx=>by simp only[Gp,tm];kernel_rfl
def Mj(a0:Op):Option (ByteArray×Unit):=
 (EN a0).bind λy1=>br (!y1.1) (some (ByteArray.empty,())) ((Gp a0.client).bind λy2=>iteP (y2.1.size+(⟨⟨[46]⟩⟩:ByteArray).size<=2 ^ 40) ((Gp a0.seq).bind λy3=>iteP ((y2.1++(⟨⟨[46]⟩⟩:ByteArray)).size+y3.1.size<=2 ^ 40) (iteP (((y2.1++(⟨⟨[46]⟩⟩:ByteArray))++y3.1).size+(⟨⟨[32]⟩⟩:ByteArray).size<=2 ^ 40) (br (a0.kind==1) (iteP ((((y2.1++(⟨⟨[46]⟩⟩:ByteArray))++y3.1)++(⟨⟨[32]⟩⟩:ByteArray)).size+(⟨⟨[119,114,105,116,101,32]⟩⟩:ByteArray).size<=2 ^ 40) ((Gp a0.object).bind λy4=>iteP (((((y2.1++(⟨⟨[46]⟩⟩:ByteArray))++y3.1)++(⟨⟨[32]⟩⟩:ByteArray))++(⟨⟨[119,114,105,116,101,32]⟩⟩:ByteArray)).size+y4.1.size<=2 ^ 40) (iteP ((((((y2.1++(⟨⟨[46]⟩⟩:ByteArray))++y3.1)++(⟨⟨[32]⟩⟩:ByteArray))++(⟨⟨[119,114,105,116,101,32]⟩⟩:ByteArray))++y4.1).size+(⟨⟨[32]⟩⟩:ByteArray).size<=2 ^ 40) ((Gp a0.value).bind λy5=>iteP (((((((y2.1++(⟨⟨[46]⟩⟩:ByteArray))++y3.1)++(⟨⟨[32]⟩⟩:ByteArray))++(⟨⟨[119,114,105,116,101,32]⟩⟩:ByteArray))++y4.1)++(⟨⟨[32]⟩⟩:ByteArray)).size+y5.1.size<=2 ^ 40) (some ((((((((y2.1++(⟨⟨[46]⟩⟩:ByteArray))++y3.1)++(⟨⟨[32]⟩⟩:ByteArray))++(⟨⟨[119,114,105,116,101,32]⟩⟩:ByteArray))++y4.1)++(⟨⟨[32]⟩⟩:ByteArray))++y5.1),())) none) none) none) none) (iteP ((((y2.1++(⟨⟨[46]⟩⟩:ByteArray))++y3.1)++(⟨⟨[32]⟩⟩:ByteArray)).size+(⟨⟨[115,119,97,112,32]⟩⟩:ByteArray).size<=2 ^ 40) ((Gp a0.object).bind λy6=>iteP (((((y2.1++(⟨⟨[46]⟩⟩:ByteArray))++y3.1)++(⟨⟨[32]⟩⟩:ByteArray))++(⟨⟨[115,119,97,112,32]⟩⟩:ByteArray)).size+y6.1.size<=2 ^ 40) (iteP ((((((y2.1++(⟨⟨[46]⟩⟩:ByteArray))++y3.1)++(⟨⟨[32]⟩⟩:ByteArray))++(⟨⟨[115,119,97,112,32]⟩⟩:ByteArray))++y6.1).size+(⟨⟨[32]⟩⟩:ByteArray).size<=2 ^ 40) ((Gp a0.old).bind λy7=>iteP (((((((y2.1++(⟨⟨[46]⟩⟩:ByteArray))++y3.1)++(⟨⟨[32]⟩⟩:ByteArray))++(⟨⟨[115,119,97,112,32]⟩⟩:ByteArray))++y6.1)++(⟨⟨[32]⟩⟩:ByteArray)).size+y7.1.size<=2 ^ 40) (iteP ((((((((y2.1++(⟨⟨[46]⟩⟩:ByteArray))++y3.1)++(⟨⟨[32]⟩⟩:ByteArray))++(⟨⟨[115,119,97,112,32]⟩⟩:ByteArray))++y6.1)++(⟨⟨[32]⟩⟩:ByteArray))++y7.1).size+(⟨⟨[32]⟩⟩:ByteArray).size<=2 ^ 40) ((Gp a0.value).bind λy8=>iteP (((((((((y2.1++(⟨⟨[46]⟩⟩:ByteArray))++y3.1)++(⟨⟨[32]⟩⟩:ByteArray))++(⟨⟨[115,119,97,112,32]⟩⟩:ByteArray))++y6.1)++(⟨⟨[32]⟩⟩:ByteArray))++y7.1)++(⟨⟨[32]⟩⟩:ByteArray)).size+y8.1.size<=2 ^ 40) (some ((((((((((y2.1++(⟨⟨[46]⟩⟩:ByteArray))++y3.1)++(⟨⟨[32]⟩⟩:ByteArray))++(⟨⟨[115,119,97,112,32]⟩⟩:ByteArray))++y6.1)++(⟨⟨[32]⟩⟩:ByteArray))++y7.1)++(⟨⟨[32]⟩⟩:ByteArray))++y8.1),())) none) none) none) none) none) none)) none) none) none)
def V7[dE] :=EW 292 Tryz.f292 Vn [.s] (λx=>Mj x.1) [Lr,QP] [] (by kernel_rfl) λx=>by simp only[Mj,tm];kernel_rfl
abbrev Nj:LX:=⟨⟨[MB,WR,Oz],[],[],0,38⟩,[(.ext 0,⟨[WR],[],[],0,38⟩)],[],[0,3,4],[3]⟩
def K1(s: (List rk×ByteArray×Int×Unit)×Unit×Unit):Nj.R:=
 br (decide (s.1.2.2.1< (s.1.1.length:Int))) (let j10 (p5:ByteArray):Nj.R:=iteP (0<=s.1.2.2.1) ((s.1.1[s.1.2.2.1.toNat]?).bind λx6=>(Gp x6.epoch).bind λy7=>iteP (p5.size+y7.1.size<=2 ^ 40) (iteP ((p5++y7.1).size+(⟨⟨[58]⟩⟩:ByteArray).size<=2 ^ 40) (iteP (0<=s.1.2.2.1) ((s.1.1[s.1.2.2.1.toNat]?).bind λx8=>(Mj x8.op).bind λy9=>iteP (((p5++y7.1)++(⟨⟨[58]⟩⟩:ByteArray)).size+y9.1.size<=2 ^ 40) (some (.inl ((s.1.1,(((p5++y7.1)++(⟨⟨[58]⟩⟩:ByteArray))++y9.1),(IntKind.wrap .i64 (s.1.2.2.1+1)),()),(()),(())))) none) none) none) none) none;br (decide (s.1.2.2.1>0)) (iteP (s.1.2.1.size+(⟨⟨[59]⟩⟩:ByteArray).size<=2 ^ 40) (j10 (s.1.2.1++(⟨⟨[59]⟩⟩:ByteArray))) none) (j10 s.1.2.1)) (some (.inr ((s.1.2.1,()),(()),(()))))
def Ti:=nx K1
def Tw[dE] :=Il Tryz.f289 [0] Nj K1 [QP,V7] [] (by kernel_rfl) λs=>by simp only[K1,tm];kernel_rfl
def Li(a0:List rk):Option (ByteArray×Unit):=
 (ET a0).bind λy1=>br (!y1.1) (some (ByteArray.empty,())) (br ((a0.length:Int)==0) (some ((⟨⟨[110,111,110,101]⟩⟩:ByteArray),())) ((Ti ((a0,ByteArray.empty,0,()),(()),(()))).bind λe11=>some e11.1))
def U9[dE] :=EW 289 Tryz.f289 P6 [.s] (λx=>Li x.1) [L4] [Tw] (by kernel_rfl) λx=>by simp only[Li,tm];kernel_rfl
abbrev Qa:LX:=⟨⟨[(0,.cl (.str)),Ng,Oz],[],[],0,21⟩,[(.ext 0,⟨[Ng],[],[],0,21⟩)],[],[0,3,4],[3]⟩
def LR(s: (ByteArray×Int×Int×Unit)×Unit×Unit):Qa.R:=
 br (decide (s.1.2.2.1< (s.1.1.size:Int))) (iteP (0<=s.1.2.2.1) ((s.1.1[s.1.2.2.1.toNat]?).bind λx4=>some (.inl ((s.1.1,(Int.tmod (IntKind.wrap .i64 ((IntKind.wrap .i64 ((IntKind.wrap .i64 (s.1.2.1*257))+(IntKind.wrap .i64 (x4.toNat:Int))))+1)) 9949),(IntKind.wrap .i64 (s.1.2.2.1+1)),()),(()),(())))) none) (some (.inr ((s.1.2.1,()),(()),(()))))
def UB:=nx LR
def UM[dE] :=Il Tryz.f288 [0] Qa LR [] [] (by kernel_rfl) λs=>by simp only[LR,tm];kernel_rfl
def Mi(a0:ByteArray):Option (Int×Unit):=
 (UB ((a0,5,0,()),(()),(()))).bind λe5=>some e5.1
def V5[dE] :=EW 288 Tryz.f288 [.ty (.s)] JR (λx=>Mi x.1) [] [UM] (by kernel_rfl) λx=>by simp only[Mi,tm];kernel_rfl
abbrev OK:LX:=⟨⟨[MB,TM,Oz,NF],[],IB,0,37⟩,[(.ext 0,⟨[TM],[],IB,0,37⟩)],[],[0,3,4,5],[3]⟩
def J4(s:aaq×Unit×List Int×Unit):OK.R:=
 br (decide (s.1.2.2.2.1< (s.1.1.length:Int))) (iteP (0<=s.1.2.2.2.1/\s.1.2.2.2.1<=(IntKind.wrap .i64 (s.1.2.2.2.1+1))/\(IntKind.wrap .i64 (s.1.2.2.2.1+1))<=(s.1.1.length:Int)) ((Li ((s.1.1.drop s.1.2.2.2.1.toNat).take ((IntKind.wrap .i64 (s.1.2.2.2.1+1)).toNat-s.1.2.2.2.1.toNat))).bind λy6=>(Mi y6.1).bind λy7=>iteP ((s.2.2.1++([(Int.tmod (IntKind.wrap .i64 ((IntKind.wrap .i64 (s.1.2.2.1*31))+y7.1)) 9973)]:List Int)).length*8<=2 ^ 40) (some (.inl ((s.1.1,(),(Int.tmod (IntKind.wrap .i64 ((IntKind.wrap .i64 (s.1.2.2.1*31))+y7.1)) 9973),(IntKind.wrap .i64 (s.1.2.2.2.1+1)),()),(()),(s.2.2.1++([(Int.tmod (IntKind.wrap .i64 ((IntKind.wrap .i64 (s.1.2.2.1*31))+y7.1)) 9973)]:List Int)),()))) none) none) (some (.inr (((),()),(()),s.2.2)))
def Sa:=nx J4
def Sz[dE] :=Il Tryz.f281 [0] OK J4 [U9,V5] [] (by kernel_rfl) λs=>by simp only[J4,tm];kernel_rfl
def Ka(a0:List rk):Option ((List Int)×Unit):=
 (ET a0).bind λy1=>br (!y1.1) (some (([]:List Int),())) (iteP ((([]:List Int)++([11]:List Int)).length*8<=2 ^ 40) ((Sa ((a0,(),11,0,()),(()),(([]:List Int)++([11]:List Int)),())).bind λe8=>some e8.2.2) none)
def Ul[dE] :=EW 281 Tryz.f281 P6 L7 (λx=>Ka x.1) [L4] [Sz] (by kernel_rfl) λx=>by simp only[Ka,tm];kernel_rfl
def KJ(a0:List rk)(a1:Int):Option (Int×Unit):=
 (Ka a0).bind λy1=>(Em a1 0 (IntKind.wrap .i64 ((y1.1.length:Int)-1))).bind λy2=>br (!y2.1) (some ((-1),())) (iteP (0<=a1/\a1< (y1.1.length:Int)) ((y1.1[a1.toNat]?).bind λx3=>some (x3,())) none)
def RV[dE] :=EW 268 Tryz.f268 Z2 JR (λx=>KJ x.1 x.2.1) [Ul,Fl] [] (by kernel_rfl) λx=>by simp only[KJ,tm];kernel_rfl
def JE(a0:qj):Option (Int×Unit):=
 (KJ a0.learned (a0.learned.length:Int)).bind λy1=>some (y1.1,())
def Rc[dE] :=EW 260 Tryz.f260 TJ JR (λx=>JE x.1) [RV] [] (by kernel_rfl) λx=>by simp only[JE,tm];kernel_rfl
def Ke(a0:List rk)(a1:Int)(a2:Int):Option (Bool×Unit):=
 br (decide (a2≥0)) ((KJ a0 a1).bind λy1=>some ((y1.1==a2),())) (some (false,()))
def R0[dE] :=EW 259 Tryz.f259 ZZ [.b] (λx=>Ke x.1 x.2.1 x.2.2.1) [RV] [] (by kernel_rfl) λx=>by simp only[Ke,tm];kernel_rfl
def HO(a0:qg)(a1:Int)(a2:Int):Option (Int×Unit):=
 (J0 a0 a1 a2).bind λy1=>br (!y1.1) (some ((-1),())) (iteP (0<=a1) ((a0.servers[a1.toNat]?).bind λx2=>(EB x2).bind λy3=>iteP (0<=a2) ((a0.servers[a2.toNat]?).bind λx4=>iteP (0<=a2) ((a0.servers[a2.toNat]?).bind λx5=>(JE x5).bind λy6=>(Ke y3.1 (x4.learned.length:Int) y6.1).bind λy7=>br (!y7.1) (some ((IntKind.wrap .i64 ((y3.1.length:Int)-0)),())) (some ((IntKind.wrap .i64 ((y3.1.length:Int)-(x4.learned.length:Int))),()))) none) none) none)
def S9[dE] :=EW 232 Tryz.f232 Se JR (λx=>HO x.1 x.2.1 x.2.2.1) [Vh,IJ,Rc,R0] [] (by kernel_rfl) λx=>by simp only[HO,tm];kernel_rfl
def HP(a0:qg)(a1:Int)(a2:Int)(a3:Int):Option (qg×Int×Unit):=
 (Fa a0).bind λy1=>(HO a0 a1 a2).bind λy2=>br (decide (y2.1<0)) (some (y1.1,0,())) ((Em a3 1 4).bind λy3=>br (!y3.1) (some (y1.1,0,())) (iteP (0<=a1) ((a0.servers[a1.toNat]?).bind λx4=>(EB x4).bind λy5=>iteP (0<=(0:Int)/\(0:Int)<=(IntKind.wrap .i64 ((IntKind.wrap .i64 ((y5.1.length:Int)-y2.1))+(if a3<y2.1 then a3 else y2.1)))/\(IntKind.wrap .i64 ((IntKind.wrap .i64 ((y5.1.length:Int)-y2.1))+(if a3<y2.1 then a3 else y2.1)))<=((y5.1.length:Nat):Int)) (iteP ((0+(0:Int).toNat)+((IntKind.wrap .i64 ((IntKind.wrap .i64 ((y5.1.length:Int)-y2.1))+(if a3<y2.1 then a3 else y2.1))).toNat-(0:Int).toNat)<=y5.1.length) ((FT ((y5.1.drop (0+(0:Int).toNat)).take ((IntKind.wrap .i64 ((IntKind.wrap .i64 ((y5.1.length:Int)-y2.1))+(if a3<y2.1 then a3 else y2.1))).toNat-(0:Int).toNat))).bind λy6=>iteP (0<=a2/\a2< (y1.1.servers.length:Int)) ((y1.1.servers[a2.toNat]?).bind λx7=>some ((⟨y1.1.now,(y1.1.servers.set a2.toNat (⟨x7.up,x7.intact,x7.version,x7.epoch,x7.config,x7.first,x7.log,x7.commit,y6.1⟩:qj)),y1.1.sides,y1.1.master,y1.1.masterUp,y1.1.lease,y1.1.places⟩:qg),(if a3<y2.1 then a3 else y2.1),())) none) none) none) none))
def Ta[dE] :=EW 177 Tryz.f177 Z7 OC (λx=>HP x.1 x.2.1 x.2.2.1 x.2.2.2.1) [Fx,S9,Fl,IJ,Ki] [] (by kernel_rfl) λx=>by simp only[HP,tm];kernel_rfl
def G2(a0:qg)(a1:Int):Option (qg×Int×Unit):=
 (Fa a0).bind λy1=>(HB a0 a1).bind λy2=>br (!y2.1) (some (y1.1,1,())) (iteP (0<=a1) ((a0.servers[a1.toNat]?).bind λx3=>br (x3.version==2) (some (y1.1,1,())) (iteP (0<=a1) ((a0.servers[a1.toNat]?).bind λx4=>br (!x4.up) (some (y1.1,2,())) (iteP (0<=a1/\a1< (y1.1.servers.length:Int)) ((y1.1.servers[a1.toNat]?).bind λx5=>some ((⟨y1.1.now,(y1.1.servers.set a1.toNat (⟨x5.up,x5.intact,2,x5.epoch,x5.config,x5.first,x5.log,x5.commit,x5.learned⟩:qj)),y1.1.sides,y1.1.master,y1.1.masterUp,y1.1.lease,y1.1.places⟩:qg),0,())) none)) none)) none)
def Ri[dE] :=EW 178 Tryz.f178 LD OC (λx=>G2 x.1 x.2.1) [Fx,Nz] [] (by kernel_rfl) λx=>by simp only[G2,tm];kernel_rfl
def Ie(a0:List rk):Option (Bool×Unit):=
 (EX a0).bind λy1=>some (y1.1,())
def Oj[dE] :=EW 233 Tryz.f233 P6 [.b] (λx=>Ie x.1) [Ms] [] (by kernel_rfl) λx=>by simp only[Ie,tm];kernel_rfl
abbrev Jf:LX:=⟨⟨[Kz,MS,QV,Yj,Ye,Ox],[JA,Lw,Vu,Yv],Xy,0,80⟩,[(.ret,⟨[Kz,Pc,NF,OB],[Vu,Vu],Xy,0,80⟩),(.ext 0,⟨[Kz,Pc,(5,.cl (.dead)),OB],[Lw,Vu],Xy,0,80⟩)],[],[1,2,4,6,7,8],[1,4,5,6]⟩
def GM(s: (Int×Unit×Unit×Unit×Unit×Int×Unit)×(MT×LF×LF×Yp×Unit)×List qj×List Int×List nF×List uO×Unit):Jf.R:=
 br (decide (s.1.2.2.2.2.2.1< (s.2.1.1.2.1.length:Int))) ((IV (⟨s.2.1.2.2.2.1.2.2.2.2.1,s.2.1.2.2.2.1.2.2.2.2.2.1,s.2.1.2.2.2.1.2.2.2.2.2.2.1,s.2.1.2.2.2.1.2.2.2.2.2.2.2.1⟩:nF)).bind λy47=>br (!y47.1) (iteP (0<=s.1.2.2.2.2.2.1) ((s.2.1.1.2.1[s.1.2.2.2.2.2.1.toNat]?).bind λx48=>(Gc x48.config (⟨s.2.1.2.2.2.1.2.2.2.2.1,s.2.1.2.2.2.1.2.2.2.2.2.1,s.2.1.2.2.2.1.2.2.2.2.2.2.1,s.2.1.2.2.2.1.2.2.2.2.2.2.2.1⟩:nF)).bind λy49=>let j52:Jf.R:=some (.inl ((s.1.1,(),(),(),(),(IntKind.wrap .i64 (s.1.2.2.2.2.2.1+1)),()),s.2));br y49.1 (iteP (0<=s.1.2.2.2.2.2.1) ((s.2.1.1.2.1[s.1.2.2.2.2.2.1.toNat]?).bind λx50=>(Ie x50.log).bind λy51=>br y51.1 (some (.inr (.inl ((s.1.1,(),6,(),()),(s.2.1.2.2.1,s.2.1.2.2.1,()),s.2.2)))) (j52)) none) (j52)) none) (some (.inr (.inr ((s.1.1,(),(),(),()),(s.2.1.2.1,s.2.1.2.2.1,()),s.2.2))))) (some (.inr (.inr ((s.1.1,(),(),(),()),(s.2.1.2.1,s.2.1.2.2.1,()),s.2.2))))
def Ou:=nx GM
def OS[dE] :=Il Tryz.f179 [0] Jf GM [Oj,OY,Kh] [] (by kernel_rfl) λs=>by simp only[GM,tm];kernel_rfl
def Gb(a0:qg)(a1:Int):Option (qg×Int×Unit):=
 (Fa a0).bind λy1=>(HB a0 a1).bind λy2=>br (!y2.1) (some (y1.1,1,())) (iteP (0<=a1) ((a0.servers[a1.toNat]?).bind λx3=>br (x3.version==1) (some (y1.1,1,())) (iteP (0<=a1) ((a0.servers[a1.toNat]?).bind λx4=>br (!x4.up) (some (y1.1,2,())) (iteP (0<=a1) ((a0.servers[a1.toNat]?).bind λx5=>(Ie x5.learned).bind λy6=>br y6.1 (some (y1.1,6,())) ((Ou ((a1,(),(),(),(),0,()),((a0.now,a0.servers,a0.sides,a0.master.configs,a0.master.activated,a0.masterUp,a0.lease.epoch,a0.lease.holder,a0.lease.ends,a0.places,()),(0,(),(),(),0,0,0,0,0,(),()),(y1.1.now,(),(),(),y1.1.master.activated,y1.1.masterUp,y1.1.lease.epoch,y1.1.lease.holder,y1.1.lease.ends,(),()),(x5.up,x5.intact,x5.version,x5.epoch,x5.config.epoch,x5.config.primary,x5.config.replicas,x5.config.witnesses,x5.first,x5.log,x5.commit,x5.learned,()),()),y1.1.servers,y1.1.sides,y1.1.master.configs,y1.1.places,())).bind λe53=>Sum.elim (λe53_0=>some ((⟨e53_0.2.1.1.1,e53_0.2.2.1,e53_0.2.2.2.1,(⟨e53_0.2.2.2.2.1,e53_0.2.1.1.2.2.2.2.1⟩:jY),e53_0.2.1.1.2.2.2.2.2.1,(⟨e53_0.2.1.1.2.2.2.2.2.2.1,e53_0.2.1.1.2.2.2.2.2.2.2.1,e53_0.2.1.1.2.2.2.2.2.2.2.2.1⟩:uL),e53_0.2.2.2.2.2.1⟩:qg),e53_0.1.2.2.1,())) (λe53_1=>iteP (0<=e53_1.1.1/\e53_1.1.1< (e53_1.2.2.1.length:Int)) ((e53_1.2.2.1[e53_1.1.1.toNat]?).bind λx54=>some ((⟨e53_1.2.1.2.1.1,(e53_1.2.2.1.set e53_1.1.1.toNat (⟨x54.up,x54.intact,1,x54.epoch,x54.config,x54.first,x54.log,x54.commit,x54.learned⟩:qj)),e53_1.2.2.2.1,(⟨e53_1.2.2.2.2.1,e53_1.2.1.2.1.2.2.2.2.1⟩:jY),e53_1.2.1.2.1.2.2.2.2.2.1,(⟨e53_1.2.1.2.1.2.2.2.2.2.2.1,e53_1.2.1.2.1.2.2.2.2.2.2.2.1,e53_1.2.1.2.1.2.2.2.2.2.2.2.2.1⟩:uL),e53_1.2.2.2.2.2.1⟩:qg),0,())) none) e53)) none)) none)) none)
def PX[dE] :=EW 179 Tryz.f179 LD OC (λx=>Gb x.1 x.2.1) [Fx,Nz,Oj] [OS] (by kernel_rfl) λx=>by simp only[Gb,tm];kernel_rfl
abbrev MJ:LX:=⟨⟨[Kt,TK,MA,M4],[JA,Xx],Yy,0,64⟩,[(.ret,⟨[Pb,QW],[Yw],aa5,0,64⟩),(.ext 0,⟨[O2,QW],[Yw],aa5,0,64⟩)],[],[1,3,5,6],[2,3]⟩
def Iq(s:aa0×(MT×Qx×Unit)×List Int×List Int×List Int×Unit):MJ.R:=
 br (decide (s.1.2.2.2.1< (s.2.2.1.length:Int))) (iteP (0<=s.1.2.2.2.1/\s.1.2.2.2.1< (s.2.2.1.length:Int)) ((s.2.2.1[s.1.2.2.2.1.toNat]?).bind λx23=>(F0 (⟨s.2.1.1.1,s.2.1.1.2.1,s.2.1.1.2.2.1,(⟨s.2.1.1.2.2.2.1,s.2.1.1.2.2.2.2.1⟩:jY),s.2.1.1.2.2.2.2.2.1,(⟨s.2.1.1.2.2.2.2.2.2.1,s.2.1.1.2.2.2.2.2.2.2.1,s.2.1.1.2.2.2.2.2.2.2.2.1⟩:uL),s.2.1.1.2.2.2.2.2.2.2.2.2.1⟩:qg) s.2.1.2.1.2.1 x23).bind λy24=>br (!y24.1) (some (.inr (.inl (((-1),(),()),s.2.1.2,s.2.2.2)))) (some (.inl (((),(),(),(IntKind.wrap .i64 (s.1.2.2.2.1+1)),()),s.2)))) none) (some (.inr (.inr (((),(),()),s.2.1.2,s.2.2.2))))
def PA:=nx Iq
def PH[dE] :=Il Tryz.f261 [0] MJ Iq [R4] [] (by kernel_rfl) λs=>by simp only[Iq,tm];kernel_rfl
def Ig(a0:qg):Option (Int×Unit):=
 (Ej a0.master).bind λy1=>(Ee a0).bind λy2=>br (!y2.1) (some ((-1),())) (br (!y1.2.1) (some ((-1),())) (iteP (0<=y1.1.primary) ((a0.servers[y1.1.primary.toNat]?).bind λx3=>(Ew x3 y1.1.primary).bind λy4=>br (!y4.1) (some ((-1),())) (iteP (0<=y1.1.primary) ((a0.servers[y1.1.primary.toNat]?).bind λx5=>br (!(x5.config.epoch==y1.1.epoch)) (some ((-1),())) ((EO y1.1).bind λy6=>(PA (((),(),(),0,()),((a0.now,a0.servers,a0.sides,a0.master.configs,a0.master.activated,a0.masterUp,a0.lease.epoch,a0.lease.holder,a0.lease.ends,a0.places,()),(y1.1.epoch,y1.1.primary,(),(),()),()),y6.1,y1.1.replicas,y1.1.witnesses,())).bind λe25=>Sum.elim (λe25_0=>some (e25_0.1.1,())) (λe25_1=>some (e25_1.2.1.1.2.1,())) e25)) none)) none))
def Qq[dE] :=EW 261 Tryz.f261 Sd JR (λx=>Ig x.1) [G3,Et,Jd,J2] [PH] (by kernel_rfl) λx=>by simp only[Ig,tm];kernel_rfl
def JY(a0:qg):Option (Bool×Unit):=
 (Ig a0).bind λy1=>some ((decide (y1.1≥0)),())
def QQ[dE] :=EW 235 Tryz.f235 Sd [.b] (λx=>JY x.1) [Qq] [] (by kernel_rfl) λx=>by simp only[JY,tm];kernel_rfl
def Lk(a0:qg)(a1:Int):Option (Int×Unit):=
 (Ej a0.master).bind λy1=>(Ee a0).bind λy2=>br (!y2.1) (some (1,())) (br (!y1.2.1) (some (1,())) ((Fi y1.1.replicas a1).bind λy3=>br (!y3.1) (some (1,())) (br (a1==y1.1.primary) (some (1,())) (br (!((a0.master.configs.length:Int)==y1.1.epoch)) (some (1,())) (br (y1.1.epoch==20) (some (1,())) (br (decide ((IntKind.wrap .i64 (a0.masterUp*2))<=3)) (some (8,())) ((JY a0).bind λy4=>br (!y4.1) (some (10,())) (iteP (0<=y1.1.primary) ((a0.sides[y1.1.primary.toNat]?).bind λx5=>br (!(x5==0)) (some (10,())) (br (decide (a0.lease.ends>0)) (br (!(a0.lease.holder==y1.1.primary)) (some (7,())) (some (0,()))) (some (0,())))) none))))))))
def Vb[dE] :=EW 234 Tryz.f234 LD JR (λx=>Lk x.1 x.2.1) [G3,Et,G9,QQ] [] (by kernel_rfl) λx=>by simp only[Lk,tm];kernel_rfl
def G1(a0:qg)(a1:Int):Option (qg×Int×Unit):=
 (Fa a0).bind λy1=>(Lk a0 a1).bind λy2=>br (!(y2.1==0)) (some (y1.1,y2.1,())) ((Ej a0.master).bind λy3=>(Gn a0 y3.1.primary).bind λy4=>(F4 (⟨y4.1.now,y4.1.servers,y4.1.sides,y4.1.master,y4.1.masterUp,(⟨0,0,0⟩:uL),y4.1.places⟩:qg) (⟨(IntKind.wrap .i64 (y3.1.epoch+1)),a1,y3.1.replicas,y3.1.witnesses⟩:nF)).bind λy5=>(Ga y5.1).bind λy6=>some (y6.1,y6.2.1,()))
def Rf[dE] :=EW 180 Tryz.f180 LD OC (λx=>G1 x.1 x.2.1) [Fx,Vb,G3,NZ,M9,Px] [] (by kernel_rfl) λx=>by simp only[G1,tm];kernel_rfl
def HU(a0:qg)(a1:Int)(a2:Int):Option (qg×Int×Unit):=
 (Fa a0).bind λy1=>(Ee a0).bind λy2=>br (!y2.1) (some (y1.1,1,())) ((Em a2 1 50).bind λy3=>br (!y3.1) (some (y1.1,1,())) ((JY a0).bind λy4=>br y4.1 (some (y1.1,0,())) ((Jl a0 a1 0).bind λy5=>br (!y5.2.1) (some (y1.1,10,())) ((F4 a0 y5.1).bind λy6=>br (!(y6.2.1==0)) (some (y1.1,y6.2.1,())) ((KL a0.lease).bind λy7=>(I9 y6.1 (if (IntKind.wrap .i64 (y7.1-a0.now))>0 then (IntKind.wrap .i64 (y7.1-a0.now)) else 0)).bind λy8=>br (!(y8.2.1==0)) (some (y1.1,y8.2.1,())) ((Ga y8.1).bind λy9=>br (!(y9.2.1==0)) (some (y9.1,y9.2.1,())) ((Gg y9.1 y5.1.primary a2).bind λy10=>some (y10.1,y10.2.1,()))))))))
def Te[dE] :=EW 181 Tryz.f181 Se OC (λx=>HU x.1 x.2.1 x.2.2.1) [Fx,Et,Fl,QQ,PY,M9,R2,RZ,Px,PZ] [] (by kernel_rfl) λx=>by simp only[HU,tm];kernel_rfl
def KN(a0:qg)(a1:wN):Option (qg×Int×Unit):=
 let j28 (p17:Int) (p18:List qj) (p19:List Int) (p20:List nF) (p21:Int) (p22:Int) (p23:Int) (p24:Int) (p25:Int) (p26:List uO) (p27:Int):Option (qg×Int×Unit):=some ((⟨p17,p18,p19,(⟨p20,p21⟩:jY),p22,(⟨p23,p24,p25⟩:uL),p26⟩:qg),p27,());br (a1.kind==3) ((Gg a0 a1.server a1.n).bind λy1=>j28 y1.1.now y1.1.servers y1.1.sides y1.1.master.configs y1.1.master.activated y1.1.masterUp y1.1.lease.epoch y1.1.lease.holder y1.1.lease.ends y1.1.places y1.2.1) (br (a1.kind==4) ((Jl a0 a1.n a1.other).bind λy2=>br (!y2.2.1) ((Fa a0).bind λy3=>some (y3.1,10,())) ((F4 a0 y2.1).bind λy4=>j28 y4.1.now y4.1.servers y4.1.sides y4.1.master.configs y4.1.master.activated y4.1.masterUp y4.1.lease.epoch y4.1.lease.holder y4.1.lease.ends y4.1.places y4.2.1)) (br (a1.kind==5) ((Ga a0).bind λy5=>j28 y5.1.now y5.1.servers y5.1.sides y5.1.master.configs y5.1.master.activated y5.1.masterUp y5.1.lease.epoch y5.1.lease.holder y5.1.lease.ends y5.1.places y5.2.1) (br (a1.kind==6) ((HQ a0 a1.server).bind λy6=>j28 y6.1.now y6.1.servers y6.1.sides y6.1.master.configs y6.1.master.activated y6.1.masterUp y6.1.lease.epoch y6.1.lease.holder y6.1.lease.ends y6.1.places y6.2.1) (br (a1.kind==7) ((G0 a0 a1.server).bind λy7=>j28 y7.1.now y7.1.servers y7.1.sides y7.1.master.configs y7.1.master.activated y7.1.masterUp y7.1.lease.epoch y7.1.lease.holder y7.1.lease.ends y7.1.places y7.2.1) (br (a1.kind==8) ((JM a0 a1.server).bind λy8=>j28 y8.1.now y8.1.servers y8.1.sides y8.1.master.configs y8.1.master.activated y8.1.masterUp y8.1.lease.epoch y8.1.lease.holder y8.1.lease.ends y8.1.places y8.2.1) (br (a1.kind==9) ((Ix a0 a1.server a1.n).bind λy9=>j28 y9.1.now y9.1.servers y9.1.sides y9.1.master.configs y9.1.master.activated y9.1.masterUp y9.1.lease.epoch y9.1.lease.holder y9.1.lease.ends y9.1.places y9.2.1) (br (a1.kind==10) ((Iz a0 a1.n).bind λy10=>j28 y10.1.now y10.1.servers y10.1.sides y10.1.master.configs y10.1.master.activated y10.1.masterUp y10.1.lease.epoch y10.1.lease.holder y10.1.lease.ends y10.1.places y10.2.1) (br (a1.kind==11) ((I9 a0 a1.n).bind λy11=>j28 y11.1.now y11.1.servers y11.1.sides y11.1.master.configs y11.1.master.activated y11.1.masterUp y11.1.lease.epoch y11.1.lease.holder y11.1.lease.ends y11.1.places y11.2.1) (br (a1.kind==12) ((HP a0 a1.server a1.other a1.n).bind λy12=>br (y12.2.1==0) (j28 y12.1.now y12.1.servers y12.1.sides y12.1.master.configs y12.1.master.activated y12.1.masterUp y12.1.lease.epoch y12.1.lease.holder y12.1.lease.ends y12.1.places 11) (j28 y12.1.now y12.1.servers y12.1.sides y12.1.master.configs y12.1.master.activated y12.1.masterUp y12.1.lease.epoch y12.1.lease.holder y12.1.lease.ends y12.1.places 0)) (br (a1.kind==13) ((G2 a0 a1.server).bind λy13=>j28 y13.1.now y13.1.servers y13.1.sides y13.1.master.configs y13.1.master.activated y13.1.masterUp y13.1.lease.epoch y13.1.lease.holder y13.1.lease.ends y13.1.places y13.2.1) (br (a1.kind==14) ((Gb a0 a1.server).bind λy14=>j28 y14.1.now y14.1.servers y14.1.sides y14.1.master.configs y14.1.master.activated y14.1.masterUp y14.1.lease.epoch y14.1.lease.holder y14.1.lease.ends y14.1.places y14.2.1) (br (a1.kind==15) ((G1 a0 a1.server).bind λy15=>j28 y15.1.now y15.1.servers y15.1.sides y15.1.master.configs y15.1.master.activated y15.1.masterUp y15.1.lease.epoch y15.1.lease.holder y15.1.lease.ends y15.1.places y15.2.1) ((HU a0 a1.other a1.n).bind λy16=>j28 y16.1.now y16.1.servers y16.1.sides y16.1.master.configs y16.1.master.activated y16.1.masterUp y16.1.lease.epoch y16.1.lease.holder y16.1.lease.ends y16.1.places y16.2.1)))))))))))))
def Xr[dE] :=EW 100 Tryz.f100 Z8 OC (λx=>KN x.1 x.2.1) [PZ,PY,Fx,M9,Px,Tb,Re,V9,Uq,Uv,RZ,Ta,Ri,PX,Rf,Te] [] (by kernel_rfl) λx=>by simp only[KN,tm];kernel_rfl
def JO(a0:qg)(a1:wN):Option (qg×wR×Unit):=
 (Ee a0).bind λy1=>br (!y1.1) ((Fa a0).bind λy2=>some (y2.1,(⟨1,(⟨false,0⟩:Result),0⟩:wR),())) ((I8 a1).bind λy3=>br (!y3.1) ((Fa a0).bind λy4=>some (y4.1,(⟨1,(⟨false,0⟩:Result),0⟩:wR),())) (br (a1.kind==1) ((JL a0 a1.server a1.op).bind λy5=>some (y5.1,y5.2.1,())) (br (a1.kind==2) ((Fa a0).bind λy6=>(Lj a0 a1.server a1.n).bind λy7=>some (y6.1,y7.1,())) ((KN a0 a1).bind λy8=>some (y8.1,(⟨y8.2.1,(⟨false,0⟩:Result),0⟩:wR),())))))
def Wc[dE] :=EW 38 Tryz.f38 Z8 aau (λx=>JO x.1 x.2.1) [Et,Fx,RY,V6,Va,Xr] [] (by kernel_rfl) λx=>by simp only[JO,tm];kernel_rfl
abbrev Pn:LX:=⟨⟨[(1,.cl (.ro (.st .event))),Pc,OB,aai,Ox],[Lw,Wr],aaA,0,40⟩,[(.ext 0,⟨[Pc,OB,aai],[Lw,Wr],aaA,0,40⟩)],[],[1,4,6,7,8],[4,6,7]⟩
def Jq(s: (List wN×Unit×Unit×Unit×Int×Unit)×(LF×LF×Unit)×List wR×List qj×List Int×List nF×List uO×Unit):Pn.R:=
 br (decide (s.1.2.2.2.2.1< (s.1.1.length:Int))) (br (decide (s.1.2.2.2.2.1<60)) (iteP (0<=s.1.2.2.2.2.1) ((s.1.1[s.1.2.2.2.2.1.toNat]?).bind λx21=>(JO (⟨s.2.1.2.1.1,s.2.2.2.1,s.2.2.2.2.1,(⟨s.2.2.2.2.2.1,s.2.1.2.1.2.2.2.2.1⟩:jY),s.2.1.2.1.2.2.2.2.2.1,(⟨s.2.1.2.1.2.2.2.2.2.2.1,s.2.1.2.1.2.2.2.2.2.2.2.1,s.2.1.2.1.2.2.2.2.2.2.2.2.1⟩:uL),s.2.2.2.2.2.2.1⟩:qg) x21).bind λy22=>iteP ((s.2.2.1++([y22.2.1]:List wR)).length*32<=2 ^ 40) (some (.inl ((s.1.1,(),(),(),(IntKind.wrap .i64 (s.1.2.2.2.2.1+1)),()),(s.2.1.1,(y22.1.now,(),(),(),y22.1.master.activated,y22.1.masterUp,y22.1.lease.epoch,y22.1.lease.holder,y22.1.lease.ends,(),()),()),(s.2.2.1++([y22.2.1]:List wR)),y22.1.servers,y22.1.sides,y22.1.master.configs,y22.1.places,()))) none) none) (some (.inr (((),(),(),()),s.2)))) (some (.inr (((),(),(),()),s.2)))
def Tm:=nx Jq
def TB[dE] :=Il Tryz.f12 [0] Pn Jq [Wc] [] (by kernel_rfl) λs=>by simp only[Jq,tm];kernel_rfl
def Ip(a0:qg)(a1:List wN):Option (qg×(List wR)×Unit):=
 (Fa a0).bind λy1=>(Tm ((a1,(),(),(),0,()),((0,(),(),(),0,0,0,0,0,(),()),(y1.1.now,(),(),(),y1.1.master.activated,y1.1.masterUp,y1.1.lease.epoch,y1.1.lease.holder,y1.1.lease.ends,(),()),()),([]:List wR),y1.1.servers,y1.1.sides,y1.1.master.configs,y1.1.places,())).bind λe23=>some ((⟨e23.2.1.2.1.1,e23.2.2.2.1,e23.2.2.2.2.1,(⟨e23.2.2.2.2.2.1,e23.2.1.2.1.2.2.2.2.1⟩:jY),e23.2.1.2.1.2.2.2.2.2.1,(⟨e23.2.1.2.1.2.2.2.2.2.2.1,e23.2.1.2.1.2.2.2.2.2.2.2.1,e23.2.1.2.1.2.2.2.2.2.2.2.2.1⟩:uL),e23.2.2.2.2.2.2.1⟩:qg),e23.2.2.1,())
def Vd[dE] :=EW 12 Tryz.f12 [.ty (.st .cluster),.ty (.ls (.st .event))] [.st .cluster,.ls (.st .reply)] (λx=>Ip x.1 x.2.1) [Fx] [TB] (by kernel_rfl) λx=>by simp only[Ip,tm];kernel_rfl
def Eu(a0:Int)(a1:Int)(a2:Int):Option (Bool×Unit):=
 br (decide (a1<=a0)) (some ((decide (a0<=a2)),())) (some (false,()))
def Gj[dE] :=EW 101 Tryz.f101 Yb [.b] (λx=>Eu x.1 x.2.1 x.2.2.1) [] [] (by kernel_rfl) λx=>by simp only[Eu,tm];kernel_rfl
abbrev OD:LX:=⟨⟨[NX,(5,.cl (.ro (.i .i64))),M4,OA],[],[],0,29⟩,[(.ret,⟨[M3],[],[],0,29⟩),(.ext 0,⟨[O2],[],[],0,29⟩)],[],[0,5,6,7],[2]⟩
def F6(s:aar×Unit×Unit):OD.R:=
 br (decide (s.1.2.2.2.1<s.1.2.2.1)) (iteP (0<=s.1.2.2.2.1) ((s.1.2.1[s.1.2.2.2.1.toNat]?).bind λx5=>(Eu x5 0 4).bind λy6=>br (!y6.1) (some (.inr (.inl ((false,()),(()),(()))))) (br (decide (s.1.2.2.2.1>0)) (iteP (0<=(IntKind.wrap .i64 (s.1.2.2.2.1-1))) ((s.1.1[(IntKind.wrap .i64 (s.1.2.2.2.1-1)).toNat]?).bind λx7=>br (decide (x5<=x7)) (some (.inr (.inl ((false,()),(()),(()))))) (some (.inl ((s.1.1,s.1.2.1,s.1.2.2.1,(IntKind.wrap .i64 (s.1.2.2.2.1+1)),()),(()),(()))))) none) (some (.inl ((s.1.1,s.1.2.1,s.1.2.2.1,(IntKind.wrap .i64 (s.1.2.2.2.1+1)),()),(()),(())))))) none) (some (.inr (.inr (((),()),(()),(())))))
def Kn:=nx F6
def Sr[dE] :=Il Tryz.f186 [0] OD F6 [Gj] [] (by kernel_rfl) λs=>by simp only[F6,tm];kernel_rfl
def G5(a0:List Int):Option (Bool×Unit):=
 (Kn ((a0,a0,(a0.length:Int),0,()),(()),(()))).bind λe8=>Sum.elim (λe8_0=>some e8_0.1) (λ_=>some (true,())) e8
def Ue[dE] :=EW 186 Tryz.f186 Wk [.b] (λx=>G5 x.1) [] [Sr] (by kernel_rfl) λx=>by simp only[G5,tm];kernel_rfl
abbrev OQ:LX:=⟨⟨[NX,Kz,OA,Ox],[],[],0,19⟩,[(.ret,⟨[Oz],[],[],0,19⟩),(.ext 0,⟨[Ow],[],[],0,19⟩)],[],[0,1,7,8],[4]⟩
def H5(s: (List Int×Int×Int×Int×Unit)×Unit×Unit):OQ.R:=
 br (decide (s.1.2.2.2.1<s.1.2.2.1)) (iteP (0<=s.1.2.2.2.1) ((s.1.1[s.1.2.2.2.1.toNat]?).bind λx5=>br (s.1.2.1==x5) (some (.inr (.inl (s.1.2.2.2,(()),(()))))) (some (.inl ((s.1.1,s.1.2.1,s.1.2.2.1,(IntKind.wrap .i64 (s.1.2.2.2.1+1)),()),(()),(()))))) none) (some (.inr (.inr (((),()),(()),(())))))
def Mz:=nx H5
def SG[dE] :=Il Tryz.f262 [0] OQ H5 [] [] (by kernel_rfl) λs=>by simp only[H5,tm];kernel_rfl
def LZ(a0:List Int)(a1:Int):Option (Int×Unit):=
 (Mz ((a0,a1,(a0.length:Int),0,()),(()),(()))).bind λe6=>Sum.elim (λe6_0=>some e6_0.1) (λ_=>some ((-1),())) e6
def Uz[dE] :=EW 262 Tryz.f262 Vm JR (λx=>LZ x.1 x.2.1) [] [SG] (by kernel_rfl) λx=>by simp only[LZ,tm];kernel_rfl
def JF(a0:List Int)(a1:Int):Option (Bool×Unit):=
 (LZ a0 a1).bind λy1=>some ((decide (y1.1≥0)),())
def Rk[dE] :=EW 238 Tryz.f238 Vm [.b] (λx=>JF x.1 x.2.1) [Uz] [] (by kernel_rfl) λx=>by simp only[JF,tm];kernel_rfl
def HG(a0:List Int)(a1:Int):Option (Bool×Unit):=
 (JF a0 a1).bind λy1=>some (y1.1,())
def MX[dE] :=EW 187 Tryz.f187 Vm [.b] (λx=>HG x.1 x.2.1) [Rk] [] (by kernel_rfl) λx=>by simp only[HG,tm];kernel_rfl
def IA(a0:List Int):Option ((List Int)×Unit):=iteP (a0.length*8<=2 ^ 40) (some (a0,())) none
def P2[dE] :=coC 80 Tryz.f80 (.i .i64) 8 IA (by kernel_rfl) (λ_=>rfl) λ_=>by kernel_rfl
def Pt(a0:Int):Option (Int×Unit):=
 br (decide (a0≥4294967296)) (none) (br (decide (a0≥65536)) (none) (br (decide (a0≥256)) (none) (iteP (0<=(IntKind.wrap .u8 a0)) ((sb0[(IntKind.wrap .u8 a0).toNat]?).bind λx1=>some ((IntKind.wrap .i64 (0+(IntKind.wrap .i64 (x1.toNat:Int)))),())) none)))
def VY[dE] :=EW 279 Tryz.f279 [.ty (.i .u64)] JR (λx=>Pt x.1) [] [] (by kernel_rfl) λx=>by simp only[Pt,tm];kernel_rfl
def Oc(a0:Int):Option (Int×Unit):=
 (Pt a0).bind λy1=>some (y1.1,())
def X6[dE] :=EW 266 Tryz.f266 [.ty (.i .u64)] JR (λx=>Oc x.1) [VY] [] (by kernel_rfl) λx=>by simp only[Oc,tm];kernel_rfl
def IU(a0:Int):Option (Bool×Unit):=
 some ((!(a0==a0)),())
def SW[dE] :=EW 287 Tryz.f287 Vo [.b] (λx=>IU x.1) [] [] (by kernel_rfl) λx=>by simp only[IU,tm];kernel_rfl
def It(a0:Int)(a1:Int):Option (Bool×Unit):=
 (IU a0).bind λy1=>br y1.1 ((IU a1).bind λy2=>br (!y2.1) (some (true,())) (some ((decide (a0<a1)),()))) (some ((decide (a0<a1)),()))
def Ud[dE] :=EW 275 Tryz.f275 Z9 [.b] (λx=>It x.1 x.2.1) [SW] [] (by kernel_rfl) λx=>by simp only[It,tm];kernel_rfl
abbrev HJ:LX:=⟨⟨[Oy,Kz,Pb,M4,OA],[],IB,1,49⟩,[(.ext 2,⟨[Oy,Kz,Pb,M4],[],IB,1,49⟩)],[],[0,1,2,6,7],[0,1,2,6]⟩
def EE(s: (Unit×Int×Int×Int×Int×Unit)×Unit×List Int×Unit):HJ.R:=
 br (decide (s.1.2.2.2.2.1>s.1.2.1)) (iteP (0<=s.1.2.2.2.2.1/\s.1.2.2.2.2.1< (s.2.2.1.length:Int)) ((s.2.2.1[s.1.2.2.2.2.1.toNat]?).bind λx10=>iteP (0<=(IntKind.wrap .i64 (s.1.2.2.2.2.1-1))/\(IntKind.wrap .i64 (s.1.2.2.2.2.1-1))< (s.2.2.1.length:Int)) ((s.2.2.1[(IntKind.wrap .i64 (s.1.2.2.2.2.1-1)).toNat]?).bind λx11=>(It x10 x11).bind λy12=>br y12.1 (iteP (0<=(IntKind.wrap .i64 (s.1.2.2.2.2.1-1))/\(IntKind.wrap .i64 (s.1.2.2.2.2.1-1))< (s.2.2.1.length:Int)) ((s.2.2.1[(IntKind.wrap .i64 (s.1.2.2.2.2.1-1)).toNat]?).bind λx13=>iteP (0<=s.1.2.2.2.2.1/\s.1.2.2.2.2.1< (s.2.2.1.length:Int)) ((s.2.2.1[s.1.2.2.2.2.1.toNat]?).bind λx14=>iteP (0<=s.1.2.2.2.2.1/\s.1.2.2.2.2.1< (s.2.2.1.length:Int)) (iteP (0<=(IntKind.wrap .i64 (s.1.2.2.2.2.1-1))/\(IntKind.wrap .i64 (s.1.2.2.2.2.1-1))< (s.2.2.1.length:Int)) ((s.2.2.1[s.1.2.2.2.2.1.toNat]?).bind λ_=>let z16:=s.2.2.1.set s.1.2.2.2.2.1.toNat x13;(z16[(IntKind.wrap .i64 (s.1.2.2.2.2.1-1)).toNat]?).bind λ_=>some (.inl (((),s.1.2.1,s.1.2.2.1,s.1.2.2.2.1,(IntKind.wrap .i64 (s.1.2.2.2.2.1-1)),()),(()),(z16.set ((IntKind.wrap .i64 (s.1.2.2.2.2.1-1)).toNat) x14),()))) none) none) none) none) (some (.inr (((),s.1.2.1,s.1.2.2.1,s.1.2.2.2.1,()),(()),s.2.2)))) none) none) (some (.inr (((),s.1.2.1,s.1.2.2.1,s.1.2.2.2.1,()),(()),s.2.2)))
def FD:=nx EE
def Ky[dE] :=Il Tryz.f269 [0,0] HJ EE [Ud] [] (by kernel_rfl) λs=>by simp only[EE,tm];kernel_rfl
abbrev HI:LX:=⟨⟨[Oy,Kz,Pb,M4],[],IB,1,49⟩,[(.ext 0,⟨[],[],IB,1,49⟩)],[],[0,1,2,6],[]⟩
def Eo(s: (Unit×Int×Int×Int×Unit)×Unit×List Int×Unit):HI.R:=
 br (decide (s.1.2.2.2.1<s.1.2.2.1)) ((FD (((),s.1.2.1,s.1.2.2.1,s.1.2.2.2.1,s.1.2.2.2),(()),s.2.2)).bind λe19=>some (.inl (((),e19.1.2.1,e19.1.2.2.1,(IntKind.wrap .i64 (e19.1.2.2.2.1+1)),()),(()),e19.2.2))) (some (.inr ((()),(()),s.2.2)))
def FC:=nx Eo
def Kx[dE] :=Il Tryz.f269 [0] HI Eo [] [Ky] (by kernel_rfl) λs=>by simp only[Eo,tm];kernel_rfl
def EJ(a0:List Int)(a1:Int)(a2:Int):Option ((List Int)×Unit):=
 (FC (((),a1,a2,(IntKind.wrap .i64 (a1+1)),()),(()),a0,())).bind λe20=>some e20.2.2
def KQ[dE] :=coI 269 Tryz.f269 (.i .i64) Z9 [] (λl x=>EJ l x.1 x.2.1) [] [Kx] (by kernel_rfl) λl x=>by simp only[EJ,tm];kernel_rfl
abbrev Jg:LX:=⟨⟨[Oy,Kz,Pb,Ng,Vr,Pd],[],IB,1,134⟩,[(.ret,⟨[],[],IB,1,134⟩)],[],[0,1,2,3,8,9],[]⟩
def FE(s: (Unit×Int×Int×Int×Bool×Bool×Unit)×Unit×List Int×Unit):Jg.R:=
 br (decide ((IntKind.wrap .i64 (s.1.2.2.1-s.1.2.1))<=12)) ((EJ s.2.2.1 s.1.2.1 s.1.2.2.1).bind λy7=>iteP (y7.1.length=s.2.2.1.length) (some (.inr ((()),(()),y7.1,()))) none) (br (s.1.2.2.2.1==0) (none) (br (!s.1.2.2.2.2.1) (none) (none)))
def Hm:=nx FE
def MR[dE] :=Il Tryz.f265 [0] Jg FE [KQ] [] (by kernel_rfl) λs=>by simp only[FE,tm,-eq_self];kernel_rfl
def Fk(a0:List Int)(a1:Int)(a2:Int)(a3:Int):Option ((List Int)×Unit):=
 (Hm (((),a1,a2,a3,true,true,()),(()),a0,())).bind λe8=>some e8.2.2
def Na[dE] :=coI 265 Tryz.f265 (.i .i64) Yb [] (λl x=>Fk l x.1 x.2.1 x.2.2.1) [] [MR] (by kernel_rfl) λl x=>by simp only[Fk,tm];kernel_rfl
def Hl(a0:List Int):Option ((List Int)×Unit):=
 (Oc (IntKind.wrap .u64 (a0.length:Int))).bind λy1=>(Fk a0 0 (a0.length:Int) y1.1).bind λy2=>iteP (y2.1.length=a0.length) (some (y2.1,())) none
def R8[dE] :=coI 240 Tryz.f240 (.i .i64) [] [] (λl _=>Hl l) [X6,Na] [] (by kernel_rfl) λl x=>by simp only[Hl,tm,-eq_self];kernel_rfl
abbrev LO:LX:=⟨⟨[Oy,Ng,(4,.cl (.sub 0 (.i .i64))),NF],[],IB,0,61⟩,[(.ext 2,⟨[Oy,Ng],[],IB,0,61⟩)],[],[0,3,4,5],[0,3]⟩
def Gl(s: (Unit×Int×(Nat×Nat)×Int×Unit)×Unit×List Int×Unit):LO.R:=
 br (decide (s.1.2.2.2.1< ((s.1.2.2.1.2:Nat):Int))) (iteP (0<=s.1.2.2.2.1/\s.1.2.2.2.1< ((s.1.2.2.1.2:Nat):Int)) ((s.2.2.1[(s.1.2.2.1.1+s.1.2.2.2.1.toNat)]?).bind λx9=>iteP (0<=(IntKind.wrap .i64 (s.1.2.2.2.1-1))/\(IntKind.wrap .i64 (s.1.2.2.2.1-1))< ((s.1.2.2.1.2:Nat):Int)) ((s.2.2.1[(s.1.2.2.1.1+(IntKind.wrap .i64 (s.1.2.2.2.1-1)).toNat)]?).bind λx10=>br (!(x9==x10)) (iteP (0<=s.1.2.2.2.1/\s.1.2.2.2.1< ((s.1.2.2.1.2:Nat):Int)) ((s.2.2.1[(s.1.2.2.1.1+s.1.2.2.2.1.toNat)]?).bind λx11=>iteP (0<=s.1.2.1/\s.1.2.1< (s.2.2.1.length:Int)) ((s.2.2.1[s.1.2.1.toNat]?).bind λ_=>some (.inl (((),(IntKind.wrap .i64 (s.1.2.1+1)),s.1.2.2.1,(IntKind.wrap .i64 (s.1.2.2.2.1+1)),()),(()),(s.2.2.1.set s.1.2.1.toNat x11),()))) none) none) (some (.inl (((),s.1.2.1,s.1.2.2.1,(IntKind.wrap .i64 (s.1.2.2.2.1+1)),()),(()),s.2.2)))) none) none) (some (.inr (((),s.1.2.1,()),(()),s.2.2)))
def LM:=nx Gl
def O4[dE] :=Il Tryz.f241 [0,0] LO Gl [] [] (by kernel_rfl) λs=>by simp only[Gl,tm];kernel_rfl
abbrev LN:LX:=⟨⟨[Oy,Ng],[],IB,0,61⟩,[(.ret,⟨[Oy,(2,.cl (.sub 0 (.i .i64)))],[],IB,0,61⟩),(.ext 0,⟨[Oy,O2],[],IB,0,61⟩)],[],[0,3],[0,2]⟩
def Fc(s:UF×Unit×List Int×Unit):LN.R:=
 br (decide (s.1.2.1< (s.2.2.1.length:Int))) (iteP (0<=s.1.2.1/\s.1.2.1< (s.2.2.1.length:Int)) ((s.2.2.1[s.1.2.1.toNat]?).bind λx3=>iteP (0<=(IntKind.wrap .i64 (s.1.2.1-1))/\(IntKind.wrap .i64 (s.1.2.1-1))< (s.2.2.1.length:Int)) ((s.2.2.1[(IntKind.wrap .i64 (s.1.2.1-1)).toNat]?).bind λx4=>br (x3==x4) (iteP (0<=s.1.2.1/\s.1.2.1<=(s.2.2.1.length:Int)/\(s.2.2.1.length:Int)<=((s.2.2.1.length:Nat):Int)) ((LM (((),s.1.2.1,((0+s.1.2.1.toNat),((s.2.2.1.length:Int).toNat-s.1.2.1.toNat)),1,()),(()),s.2.2)).bind λe16=>iteP (0<=e16.1.2.1/\e16.1.2.1<=(e16.2.2.1.length:Int)/\(e16.2.2.1.length:Int)<=((e16.2.2.1.length:Nat):Int)) (iteP ((0+e16.1.2.1.toNat)+((e16.2.2.1.length:Int).toNat-e16.1.2.1.toNat)<=e16.2.2.1.length) (iteP (0<=(0:Int)/\(0:Int)<=e16.1.2.1/\e16.1.2.1<=((e16.2.2.1.length:Nat):Int)) (some (.inr (.inl (((),((0+(0:Int).toNat),(e16.1.2.1.toNat-(0:Int).toNat)),()),(()),(e16.2.2.1.take (0+e16.1.2.1.toNat)++List.replicate ((e16.2.2.1.length:Int).toNat-e16.1.2.1.toNat) (0:Int)++e16.2.2.1.drop ((0+e16.1.2.1.toNat)+((e16.2.2.1.length:Int).toNat-e16.1.2.1.toNat))),())))) none) none) none) none) (some (.inl (((),(IntKind.wrap .i64 (s.1.2.1+1)),()),(()),s.2.2)))) none) none) (some (.inr (.inr (((),(),()),(()),s.2.2))))
def Jp:=nx Fc
def O3[dE] :=Il Tryz.f241 [0] LN Fc [] [O4] (by kernel_rfl) λs=>by simp only[Fc,tm];kernel_rfl
def Gi(a0:List Int):Option ((List Int)×Unit):=
 br (decide ((a0.length:Int)<2)) (some (a0,())) ((Jp (((),1,()),(()),a0,())).bind λe17=>Sum.elim (λe17_0=>iteP (e17_0.1.2.1.1=0/\e17_0.1.2.1.2<=e17_0.2.2.1.length) (some ((e17_0.2.2.1.take e17_0.1.2.1.2),())) (iteP (e17_0.1.2.1.1+e17_0.1.2.1.2<=e17_0.2.2.1.length) (some (((e17_0.2.2.1.drop e17_0.1.2.1.1).take e17_0.1.2.1.2),())) none)) (λe17_1=>some e17_1.2.2) e17)
def P3[dE] :=coM 241 Tryz.f241 (.i .i64) [] L7 (λl _=>Gi l) [] [O3] (by kernel_rfl) λl x=>by simp only[Gi,tm,-eq_self];kernel_rfl
def Io(a0:List Int):Option ((List Int)×Unit):=
 (IA a0).bind λy1=>(Hl y1.1).bind λy2=>iteP (y2.1.length=y1.1.length) ((Gi y2.1).bind λy3=>some (y3.1,())) none
def QO[dE] :=EW 189 Tryz.f189 Wk L7 (λx=>Io x.1) [P2,R8,P3] [] (by kernel_rfl) λx=>by simp only[Io,tm,-eq_self];kernel_rfl
def Gm(a0:Int)(a1:List Int):Option (Bool×Unit):=
 (HG a1 a0).bind λy1=>some (y1.1,())
def LL[dE] :=EW 264 Tryz.f264 [.ty (.i .i64),.pr (.ls (.i .i64))] [.b] (λx=>Gm x.1 x.2.1) [MX] [] (by kernel_rfl) λx=>by simp only[Gm,tm];kernel_rfl
abbrev GW:LX:=⟨⟨[NX,(1,.fn 264 [.pro (.ls (.i .i64))]),OA,Ox],[],[],0,19⟩,[(.ret,⟨[Oz],[],[],0,19⟩),(.ext 0,⟨[Ow],[],[],0,19⟩)],[],[0,1,7,8],[4]⟩
def ED(s: (List Int×(List Int×Unit)×Int×Int×Unit)×Unit×Unit):GW.R:=
 br (decide (s.1.2.2.2.1<s.1.2.2.1)) (iteP (0<=s.1.2.2.2.1) ((s.1.1[s.1.2.2.2.1.toNat]?).bind λx5=>(Gm x5 s.1.2.1.1).bind λy6=>br y6.1 (some (.inr (.inl (s.1.2.2.2,(()),(()))))) (some (.inl ((s.1.1,s.1.2.1,s.1.2.2.1,(IntKind.wrap .i64 (s.1.2.2.2.1+1)),()),(()),(()))))) none) (some (.inr (.inr (((),()),(()),(())))))
def FM:=nx ED
def Jn[dE] :=Il Tryz.f114 [0] GW ED [LL] [] (by kernel_rfl) λs=>by simp only[ED,tm];kernel_rfl
def Ft(a0:List Int)(a1_0:List Int):Option (Int×Unit):=
 (FM ((a0,(a1_0,()),(a0.length:Int),0,()),(()),(()))).bind λe7=>Sum.elim (λe7_0=>some e7_0.1) (λ_=>some ((-1),())) e7
def Jz[dE] :=EW 114 Tryz.f114 [.ty (.ls (.i .i64)),.fn 264 L7] JR (λx=>Ft x.1 x.2.1.1) [] [Jn] (by kernel_rfl) λx=>by simp only[Ft,tm];kernel_rfl
abbrev Gs:LX:=⟨⟨[Oy,(1,.fn 264 [.pro (.ls (.i .i64))]),NF,M4],[],IB,0,42⟩,[(.ext 0,⟨[Oy,NF],[],IB,0,42⟩)],[],[0,1,5,6],[0,5]⟩
def Ey(s: (Unit×(List Int×Unit)×Int×Int×Unit)×Unit×List Int×Unit):Gs.R:=
 br (decide (s.1.2.2.2.1< (s.2.2.1.length:Int))) (iteP (0<=s.1.2.2.2.1/\s.1.2.2.2.1< (s.2.2.1.length:Int)) ((s.2.2.1[s.1.2.2.2.1.toNat]?).bind λx6=>(Gm x6 s.1.2.1.1).bind λy7=>br (!y7.1) (iteP (0<=s.1.2.2.1/\s.1.2.2.1< (s.2.2.1.length:Int)) ((s.2.2.1[s.1.2.2.1.toNat]?).bind λ_=>some (.inl (((),s.1.2.1,(IntKind.wrap .i64 (s.1.2.2.1+1)),(IntKind.wrap .i64 (s.1.2.2.2.1+1)),()),(()),(s.2.2.1.set s.1.2.2.1.toNat x6),()))) none) (some (.inl (((),s.1.2.1,s.1.2.2.1,(IntKind.wrap .i64 (s.1.2.2.2.1+1)),()),(()),s.2.2)))) none) (some (.inr (((),s.1.2.2.1,()),(()),s.2.2)))
def Gq:=nx Ey
def IM[dE] :=Il Tryz.f263 [0] Gs Ey [LL] [] (by kernel_rfl) λs=>by simp only[Ey,tm];kernel_rfl
def EK(a0:List Int)(a1_0:List Int):Option ((List Int)×Unit):=
 (Ft a0 a1_0).bind λy1=>br (y1.1==(-1)) (some (a0,())) ((Gq (((),(a1_0,()),y1.1,(IntKind.wrap .i64 (y1.1+1)),()),(()),a0,())).bind λe12=>iteP (0<=e12.1.2.1/\e12.1.2.1<=(e12.2.2.1.length:Int)/\(e12.2.2.1.length:Int)<=((e12.2.2.1.length:Nat):Int)) (iteP ((0+e12.1.2.1.toNat)+((e12.2.2.1.length:Int).toNat-e12.1.2.1.toNat)<=e12.2.2.1.length) (iteP (0<=(0:Int)/\(0:Int)<=e12.1.2.1/\e12.1.2.1<=((e12.2.2.1.length:Nat):Int)) (iteP ((0+(0:Int).toNat)=0/\(e12.1.2.1.toNat-(0:Int).toNat)<=(e12.2.2.1.take (0+e12.1.2.1.toNat)++List.replicate ((e12.2.2.1.length:Int).toNat-e12.1.2.1.toNat) (0:Int)++e12.2.2.1.drop ((0+e12.1.2.1.toNat)+((e12.2.2.1.length:Int).toNat-e12.1.2.1.toNat))).length) (some (((e12.2.2.1.take (0+e12.1.2.1.toNat)++List.replicate ((e12.2.2.1.length:Int).toNat-e12.1.2.1.toNat) (0:Int)++e12.2.2.1.drop ((0+e12.1.2.1.toNat)+((e12.2.2.1.length:Int).toNat-e12.1.2.1.toNat))).take (e12.1.2.1.toNat-(0:Int).toNat)),())) (iteP ((0+(0:Int).toNat)+(e12.1.2.1.toNat-(0:Int).toNat)<=(e12.2.2.1.take (0+e12.1.2.1.toNat)++List.replicate ((e12.2.2.1.length:Int).toNat-e12.1.2.1.toNat) (0:Int)++e12.2.2.1.drop ((0+e12.1.2.1.toNat)+((e12.2.2.1.length:Int).toNat-e12.1.2.1.toNat))).length) (some ((((e12.2.2.1.take (0+e12.1.2.1.toNat)++List.replicate ((e12.2.2.1.length:Int).toNat-e12.1.2.1.toNat) (0:Int)++e12.2.2.1.drop ((0+e12.1.2.1.toNat)+((e12.2.2.1.length:Int).toNat-e12.1.2.1.toNat))).drop (0+(0:Int).toNat)).take (e12.1.2.1.toNat-(0:Int).toNat)),())) none)) none) none) none)
def I3[dE] :=coM 263 Tryz.f263 (.i .i64) [.fn 264 L7] L7 (λl x=>EK l x.1.1) [Jz] [IM] (by kernel_rfl) λl x=>by simp only[EK,tm,-eq_self];kernel_rfl
def Hg(a0:List Int)(a1:List Int):Option ((List Int)×Unit):=
 (Io a0).bind λy1=>(EK y1.1 a1).bind λy2=>some (y2.1,())
def Qm[dE] :=EW 239 Tryz.f239 UD L7 (λx=>Hg x.1 x.2.1) [QO,I3] [] (by kernel_rfl) λx=>by simp only[Hg,tm];kernel_rfl
def IG(a0:List Int)(a1:List Int):Option ((List Int)×Unit):=
 (Hg a0 a1).bind λy1=>(Hg a0 y1.1).bind λy2=>some (y2.1,())
def Q6[dE] :=EW 188 Tryz.f188 UD L7 (λx=>IG x.1 x.2.1) [Qm] [] (by kernel_rfl) λx=>by simp only[IG,tm];kernel_rfl
def GX(a0:nF):Option (Bool×Unit):=
 (Eu a0.epoch 1 20).bind λy1=>br y1.1 ((G5 a0.replicas).bind λy2=>br y2.1 ((G5 a0.witnesses).bind λy3=>br y3.1 ((HG a0.replicas a0.primary).bind λy4=>br y4.1 ((IG a0.replicas a0.witnesses).bind λy5=>some (((y5.1.length:Int)==0),())) (some (false,()))) (some (false,()))) (some (false,()))) (some (false,()))
def Ly[dE] :=EW 112 Tryz.f112 Wl [.b] (λx=>GX x.1) [Gj,Ue,MX,Q6] [] (by kernel_rfl) λx=>by simp only[GX,tm];kernel_rfl
abbrev N4:LX:=⟨⟨[Kt,(6,.cl (.ro (.st .config))),OA,Ox],[Wo],[],0,30⟩,[(.ret,⟨[Kt,M3],[Wo],[],0,30⟩),(.ext 0,⟨[Kt,O2],[Wo],[],0,30⟩)],[],[1,6,7,8],[1,2]⟩
def Ht(s: (Unit×List nF×Int×Int×Unit)×(aa1×Unit)×Unit):N4.R:=
 br (decide (s.1.2.2.2.1<s.1.2.2.1)) (iteP (0<=s.1.2.2.2.1) ((s.1.2.1[s.1.2.2.2.1.toNat]?).bind λx6=>(GX x6).bind λy7=>br (!y7.1) (some (.inr (.inl (((),false,()),s.2.1,(()))))) (br (!(x6.epoch==(IntKind.wrap .i64 (s.1.2.2.2.1+1)))) (some (.inr (.inl (((),false,()),s.2.1,(()))))) (some (.inl (((),s.1.2.1,s.1.2.2.1,(IntKind.wrap .i64 (s.1.2.2.2.1+1)),()),s.2.1,(())))))) none) (some (.inr (.inr (((),(),()),s.2.1,(())))))
def LA:=nx Ht
def Rq[dE] :=Il Tryz.f103 [0] N4 Ht [Ly] [] (by kernel_rfl) λs=>by simp only[Ht,tm];kernel_rfl
def HM(a0:jY):Option (Bool×Unit):=
 (LA (((),a0.configs,(a0.configs.length:Int),0,()),((a0.configs,a0.activated,()),()),(()))).bind λe8=>Sum.elim (λe8_0=>some e8_0.1.2) (λe8_1=>(Eu e8_1.2.1.1.2.1 0 (e8_1.2.1.1.1.length:Int)).bind λy9=>some (y9.1,())) e8
def M7[dE] :=EW 103 Tryz.f103 Vp [.b] (λx=>HM x.1) [Gj] [Rq] (by kernel_rfl) λx=>by simp only[HM,tm];kernel_rfl
def FV(a0:nF):Option (nF×Unit):=
 iteP ((([]:List Int)++a0.replicas).length*8<=2 ^ 40) (iteP ((([]:List Int)++a0.witnesses).length*8<=2 ^ 40) (some ((⟨a0.epoch,a0.primary,(([]:List Int)++a0.replicas),(([]:List Int)++a0.witnesses)⟩:nF),())) none) none
def L0[dE] :=EW 120 Tryz.f120 Wl [.st .config] (λx=>FV x.1) [] [] (by kernel_rfl) λx=>by simp only[FV,tm];kernel_rfl
def Iu(a0:jY)(a1:Int):Option (nF×Bool×Unit):=
 (HM a0).bind λy1=>br (!y1.1) (some ((⟨0,0,([]:List Int),([]:List Int)⟩:nF),false,())) ((Eu a1 1 (a0.configs.length:Int)).bind λy2=>br (!y2.1) (some ((⟨0,0,([]:List Int),([]:List Int)⟩:nF),false,())) (iteP (0<=(IntKind.wrap .i64 (a1-1))) ((a0.configs[(IntKind.wrap .i64 (a1-1)).toNat]?).bind λx3=>(FV x3).bind λy4=>some (y4.1,true,())) none))
def Pv[dE] :=EW 55 Tryz.f55 WN Wn (λx=>Iu x.1 x.2.1) [M7,Gj,L0] [] (by kernel_rfl) λx=>by simp only[Iu,tm];kernel_rfl
def J7(a0:jY):Option (nF×Bool×Unit):=
 (Iu a0 (a0.configs.length:Int)).bind λy1=>some (y1.1,y1.2.1,())
def Ug[dE] :=EW 41 Tryz.f41 Vp Wn (λx=>J7 x.1) [Pv] [] (by kernel_rfl) λx=>by simp only[J7,tm];kernel_rfl
def K6(a0:Int):Option (Bool×Unit):=
 (Eu a0 0 3).bind λy1=>some ((!y1.1),())
def SZ[dE] :=EW 182 Tryz.f182 Vo [.b] (λx=>K6 x.1) [Gj] [] (by kernel_rfl) λx=>by simp only[K6,tm];kernel_rfl
abbrev HX:LX:=⟨⟨[NX,(1,.cl (.fc 182)),OA,Ox],[],[],0,19⟩,[(.ret,⟨[Oz],[],[],0,19⟩),(.ext 0,⟨[Ow],[],[],0,19⟩)],[],[0,1,7,8],[4]⟩
def EZ(s: (List Int×Unit×Int×Int×Unit)×Unit×Unit):HX.R:=
 br (decide (s.1.2.2.2.1<s.1.2.2.1)) (iteP (0<=s.1.2.2.2.1) ((s.1.1[s.1.2.2.2.1.toNat]?).bind λx4=>(K6 x4).bind λy5=>br y5.1 (some (.inr (.inl (s.1.2.2.2,(()),(()))))) (some (.inl ((s.1.1,(),s.1.2.2.1,(IntKind.wrap .i64 (s.1.2.2.2.1+1)),()),(()),(()))))) none) (some (.inr (.inr (((),()),(()),(())))))
def Gv:=nx EZ
def KC[dE] :=Il Tryz.f114 [0] HX EZ [SZ] [] (by kernel_rfl) λs=>by simp only[EZ,tm];kernel_rfl
def FQ(a0:List Int):Option (Int×Unit):=
 (Gv ((a0,(),(a0.length:Int),0,()),(()),(()))).bind λe6=>Sum.elim (λe6_0=>some e6_0.1) (λ_=>some ((-1),())) e6
def Lu[dE] :=EW 114 Tryz.f114 aaa JR (λx=>FQ x.1) [] [KC] (by kernel_rfl) λx=>by simp only[FQ,tm];kernel_rfl
def FA(a0:List Int):Option (Bool×Unit):=
 (FQ a0).bind λy1=>some ((decide (y1.1≥0)),())
def Kl[dE] :=EW 48 Tryz.f48 aaa [.b] (λx=>FA x.1) [Lu] [] (by kernel_rfl) λx=>by simp only[FA,tm];kernel_rfl
def JK(a0:List Int):Option (Bool×Unit):=
 br ((a0.length:Int)==5) ((FA a0).bind λy1=>some ((!y1.1),())) (some (false,()))
def RP[dE] :=EW 102 Tryz.f102 Wk [.b] (λx=>JK x.1) [Kl] [] (by kernel_rfl) λx=>by simp only[JK,tm];kernel_rfl
def GS(a0:uL):Option (Bool×Unit):=
 br ((a0.epoch==0)&&((a0.holder==0)&&((a0.ends==0)&&true))) (some (true,())) ((Eu a0.epoch 1 20).bind λy1=>br y1.1 ((Eu a0.holder 0 4).bind λy2=>br y2.1 ((Eu a0.ends 1 1049).bind λy3=>some (y3.1,())) (some (false,()))) (some (false,())))
def Ql[dE] :=EW 104 Tryz.f104 WM [.b] (λx=>GS x.1) [Gj] [] (by kernel_rfl) λx=>by simp only[GS,tm];kernel_rfl
def J6(a0:uO):Option (Bool×Unit):=
 (Eu a0.rack 0 9).bind λy1=>br (!y1.1) (some (true,())) ((Eu a0.capacity 0 9).bind λy2=>br (!y2.1) (some (true,())) ((Eu a0.load 0 99).bind λy3=>some ((!y3.1),())))
def RN[dE] :=EW 184 Tryz.f184 [.ty (.st .place)] [.b] (λx=>J6 x.1) [Gj] [] (by kernel_rfl) λx=>by simp only[J6,tm];kernel_rfl
abbrev Hn:LX:=⟨⟨[Sf,(1,.cl (.fc 184)),OA,Ox],[],[],0,19⟩,[(.ret,⟨[Oz],[],[],0,19⟩),(.ext 0,⟨[Ow],[],[],0,19⟩)],[],[0,1,7,8],[4]⟩
def EH(s: (List uO×Unit×Int×Int×Unit)×Unit×Unit):Hn.R:=
 br (decide (s.1.2.2.2.1<s.1.2.2.1)) (iteP (0<=s.1.2.2.2.1) ((s.1.1[s.1.2.2.2.1.toNat]?).bind λx4=>(J6 x4).bind λy5=>br y5.1 (some (.inr (.inl (s.1.2.2.2,(()),(()))))) (some (.inl ((s.1.1,(),s.1.2.2.1,(IntKind.wrap .i64 (s.1.2.2.2.1+1)),()),(()),(()))))) none) (some (.inr (.inr (((),()),(()),(())))))
def F1:=nx EH
def JS[dE] :=Il Tryz.f237 [0] Hn EH [RN] [] (by kernel_rfl) λs=>by simp only[EH,tm];kernel_rfl
def FB(a0:List uO):Option (Int×Unit):=
 (F1 ((a0,(),(a0.length:Int),0,()),(()),(()))).bind λe6=>Sum.elim (λe6_0=>some e6_0.1) (λ_=>some ((-1),())) e6
def Km[dE] :=EW 237 Tryz.f237 aab JR (λx=>FB x.1) [] [JS] (by kernel_rfl) λx=>by simp only[FB,tm];kernel_rfl
def Fr(a0:List uO):Option (Bool×Unit):=
 (FB a0).bind λy1=>some ((decide (y1.1≥0)),())
def Jx[dE] :=EW 183 Tryz.f183 aab [.b] (λx=>Fr x.1) [Km] [] (by kernel_rfl) λx=>by simp only[Fr,tm];kernel_rfl
def JV(a0:List uO):Option (Bool×Unit):=
 br ((a0.length:Int)==5) ((Fr a0).bind λy1=>some ((!y1.1),())) (some (false,()))
def U2[dE] :=EW 105 Tryz.f105 Yc [.b] (λx=>JV x.1) [Jx] [] (by kernel_rfl) λx=>by simp only[JV,tm];kernel_rfl
def JW(a0:Op):Option (Bool×Unit):=
 (Eu a0.client 0 2).bind λy1=>br (!y1.1) (some (false,())) ((Eu a0.seq 1 99).bind λy2=>br (!y2.1) (some (false,())) ((Eu a0.object 0 2).bind λy3=>br (!y3.1) (some (false,())) ((Eu a0.value 0 9).bind λy4=>br (!y4.1) (some (false,())) (br (a0.kind==1) (br (a0.old==0) (some (true,())) (br (a0.kind==2) ((Eu a0.old 0 9).bind λy5=>some (y5.1,())) (some (false,())))) (br (a0.kind==2) ((Eu a0.old 0 9).bind λy6=>some (y6.1,())) (some (false,())))))))
def U3[dE] :=EW 145 Tryz.f145 Vn [.b] (λx=>JW x.1) [Gj] [] (by kernel_rfl) λx=>by simp only[JW,tm];kernel_rfl
abbrev TO:LX:=⟨⟨[MB,(5,.cl (.ro (.st .entry))),M4,OA],[],[],0,41⟩,[(.ret,⟨[MB,M3],[],[],0,41⟩),(.ext 0,⟨[MB,O2],[],[],0,41⟩)],[],[0,5,6,7],[0,2]⟩
def L9(s:aas×Unit×Unit):TO.R:=
 br (decide (s.1.2.2.2.1<s.1.2.2.1)) (iteP (0<=s.1.2.2.2.1) ((s.1.2.1[s.1.2.2.2.1.toNat]?).bind λx5=>(Eu x5.epoch 1 20).bind λy6=>br (!y6.1) (some (.inr (.inl ((s.1.1,false,()),(()),(()))))) (br (decide (s.1.2.2.2.1>0)) (iteP (0<=(IntKind.wrap .i64 (s.1.2.2.2.1-1))) ((s.1.1[(IntKind.wrap .i64 (s.1.2.2.2.1-1)).toNat]?).bind λx7=>br (decide (x5.epoch<x7.epoch)) (some (.inr (.inl ((s.1.1,false,()),(()),(()))))) ((JW x5.op).bind λy8=>br (!y8.1) (some (.inr (.inl ((s.1.1,false,()),(()),(()))))) (some (.inl ((s.1.1,s.1.2.1,s.1.2.2.1,(IntKind.wrap .i64 (s.1.2.2.2.1+1)),()),(()),(())))))) none) ((JW x5.op).bind λy9=>br (!y9.1) (some (.inr (.inl ((s.1.1,false,()),(()),(()))))) (some (.inl ((s.1.1,s.1.2.1,s.1.2.2.1,(IntKind.wrap .i64 (s.1.2.2.2.1+1)),()),(()),(()))))))) none) (some (.inr (.inr ((s.1.1,(),()),(()),(())))))
def Qv:=nx L9
def XB[dE] :=Il Tryz.f119 [0] TO L9 [Gj,U3] [] (by kernel_rfl) λs=>by simp only[L9,tm];kernel_rfl
def IY(a0:List rk):Option (Bool×Unit):=
 (Qv ((a0,a0,(a0.length:Int),0,()),(()),(()))).bind λe10=>Sum.elim (λe10_0=>some e10_0.1.2) (λe10_1=>some ((decide ((e10_1.1.1.length:Int)<=16)),())) e10
def PS[dE] :=EW 119 Tryz.f119 P6 [.b] (λx=>IY x.1) [] [XB] (by kernel_rfl) λx=>by simp only[IY,tm];kernel_rfl
abbrev OP:LX:=⟨⟨[NX,P7,Pe,Yk],[],[],0,26⟩,[(.ret,⟨[TL],[],[],0,26⟩),(.ext 0,⟨[Ow],[],[],0,26⟩)],[],[0,1,12,13],[4]⟩
def H4(s:aar×Unit×Unit):OP.R:=
 br (decide (s.1.2.2.2.1<s.1.2.2.1)) (iteP (0<=s.1.2.2.2.1) ((s.1.1[s.1.2.2.2.1.toNat]?).bind λx5=>iteP (0<=s.1.2.2.2.1) ((s.1.2.1[s.1.2.2.2.1.toNat]?).bind λx6=>br (!(x5==x6)) (some (.inr (.inl ((false,()),(()),(()))))) (some (.inl ((s.1.1,s.1.2.1,s.1.2.2.1,(IntKind.wrap .i64 (s.1.2.2.2.1+1)),()),(()),(()))))) none) none) (some (.inr (.inr (((),()),(()),(())))))
def My:=nx H4
def SF[dE] :=Il Tryz.f34 [0] OP H4 [] [] (by kernel_rfl) λs=>by simp only[H4,tm];kernel_rfl
def LY(a0:List Int)(a1:List Int):Option (Bool×Unit):=
 br (!((a0.length:Int)==(a1.length:Int))) (some (false,())) ((My ((a0,a1,(a0.length:Int),0,()),(()),(()))).bind λe7=>Sum.elim (λe7_0=>some e7_0.1) (λ_=>some (true,())) e7)
def Uy[dE] :=EW 34 Tryz.f34 UD [.b] (λx=>LY x.1 x.2.1) [] [SF] (by kernel_rfl) λx=>by simp only[LY,tm];kernel_rfl
def H9(a0:List Int)(a1:List Int):Option (Bool×Unit):=
 (LY a0 a1).bind λy1=>some (y1.1,())
def RR[dE] :=EW 160 Tryz.f160 UD [.b] (λx=>H9 x.1 x.2.1) [Uy] [] (by kernel_rfl) λx=>by simp only[H9,tm];kernel_rfl
def GN(a0:nF)(a1:nF):Option (Bool×Unit):=
 br (a0.epoch==a1.epoch) (br (a0.primary==a1.primary) ((H9 a0.replicas a1.replicas).bind λy1=>br y1.1 ((H9 a0.witnesses a1.witnesses).bind λy2=>some (y2.1,())) (some (false,()))) (some (false,()))) (some (false,()))
def Og[dE] :=EW 92 Tryz.f92 ZX [.b] (λx=>GN x.1 x.2.1) [RR] [] (by kernel_rfl) λx=>by simp only[GN,tm];kernel_rfl
def I7(a0:List rk):Option (Int×Unit):=
 br ((a0.length:Int)==0) (some (0,())) (iteP (0<=(IntKind.wrap .i64 ((a0.length:Int)-1))) ((a0[(IntKind.wrap .i64 ((a0.length:Int)-1)).toNat]?).bind λx1=>some (x1.epoch,())) none)
def Oi[dE] :=EW 107 Tryz.f107 P6 JR (λx=>I7 x.1) [] [] (by kernel_rfl) λx=>by simp only[I7,tm];kernel_rfl
def J8(a0:nF)(a1:Int):Option (Int×Unit):=
 (GX a0).bind λy1=>br (!y1.1) (some (0,())) (br (a1==a0.primary) (some (1,())) ((HG a0.replicas a1).bind λy2=>br y2.1 (some (2,())) ((HG a0.witnesses a1).bind λy3=>br y3.1 (some (3,())) (some (0,())))))
def U4[dE] :=EW 118 Tryz.f118 ZY JR (λx=>J8 x.1 x.2.1) [Ly,MX] [] (by kernel_rfl) λx=>by simp only[J8,tm];kernel_rfl
def Mh(a0:Int)(a1:List rk):Option (Bool×Unit):=
 (IY a1).bind λy1=>br y1.1 (br (decide ((a1.length:Int)<=3)) ((Eu a0 0 (IntKind.wrap .i64 (16-(a1.length:Int)))).bind λy2=>br y2.1 (br (a0==0) (some (true,())) (some (((a1.length:Int)==3),()))) (some (false,()))) (some (false,()))) (some (false,()))
def U7[dE] :=EW 131 Tryz.f131 Z4 [.b] (λx=>Mh x.1 x.2.1) [PS,Gj] [] (by kernel_rfl) λx=>by simp only[Mh,tm];kernel_rfl
def Hx(a0:qj)(a1:Int):Option (Bool×Unit):=
 (Eu a0.version 1 2).bind λy1=>br (!y1.1) (some (false,())) ((Eu a0.epoch 0 20).bind λy2=>br (!y2.1) (some (false,())) ((IY a0.log).bind λy3=>br (!y3.1) (some (false,())) ((IY a0.learned).bind λy4=>br (!y4.1) (some (false,())) ((Eu a0.first 0 16).bind λy5=>br (!y5.1) (some (false,())) (br (decide ((IntKind.wrap .i64 (a0.first+(a0.log.length:Int)))>16)) (some (false,())) ((Eu a0.commit 0 (IntKind.wrap .i64 (a0.first+(a0.log.length:Int)))).bind λy6=>br (!y6.1) (some (false,())) ((GN a0.config (⟨0,0,([]:List Int),([]:List Int)⟩:nF)).bind λy7=>br y7.1 (br (a0.first==0) (br (a0.commit==0) (some (((a0.log.length:Int)==0),())) (some (false,()))) (some (false,()))) (br (!a0.intact) (some (false,())) (br (decide (a0.epoch<a0.config.epoch)) (some (false,())) ((I7 a0.log).bind λy8=>br (decide (y8.1>a0.config.epoch)) (some (false,())) ((J8 a0.config a1).bind λy9=>br (y9.1==1) (some ((a0.first==0),())) (br (y9.1==2) (some ((a0.first==0),())) (br (y9.1==3) ((Mh a0.first a0.log).bind λy12=>some (y12.1,())) (some (false,())))))))))))))))
def Q8[dE] :=EW 106 Tryz.f106 UE [.b] (λx=>Hx x.1 x.2.1) [Gj,PS,Og,Oi,U4,U7] [] (by kernel_rfl) λx=>by simp only[Hx,tm];kernel_rfl
abbrev MD:LX:=⟨⟨[Kt,(57,.cl (.ro (.st .server))),(58,.cl (.int .i64)),(59,.cl (.int .i64))],[JA],[],0,118⟩,[(.ret,⟨[M3],[],[],0,118⟩),(.ext 0,⟨[O2],[],[],0,118⟩)],[],[1,57,58,59],[2]⟩
def Gx(s: (Unit×List qj×Int×Int×Unit)×(MT×Unit)×Unit):MD.R:=
 br (decide (s.1.2.2.2.1<s.1.2.2.1)) (iteP (0<=s.1.2.2.2.1) ((s.1.2.1[s.1.2.2.2.1.toNat]?).bind λx20=>(Hx x20 s.1.2.2.2.1).bind λy21=>br (!y21.1) (some (.inr (.inl ((false,()),(()),(()))))) (br (decide (x20.epoch>(s.2.1.1.2.2.2.1.length:Int))) (some (.inr (.inl ((false,()),(()),(()))))) ((I7 x20.learned).bind λy22=>br (decide (y22.1>s.2.1.1.2.2.2.2.1)) (some (.inr (.inl ((false,()),(()),(()))))) ((GN x20.config (⟨0,0,([]:List Int),([]:List Int)⟩:nF)).bind λy23=>br y23.1 (some (.inl (((),s.1.2.1,s.1.2.2.1,(IntKind.wrap .i64 (s.1.2.2.2.1+1)),()),s.2.1,(())))) ((Iu (⟨s.2.1.1.2.2.2.1,s.2.1.1.2.2.2.2.1⟩:jY) x20.config.epoch).bind λy24=>br (!y24.2.1) (some (.inr (.inl ((false,()),(()),(()))))) ((GN y24.1 x20.config).bind λy25=>br (!y25.1) (some (.inr (.inl ((false,()),(()),(()))))) (br (decide (x20.config.epoch>s.2.1.1.2.2.2.2.1)) (some (.inr (.inl ((false,()),(()),(()))))) (some (.inl (((),s.1.2.1,s.1.2.2.1,(IntKind.wrap .i64 (s.1.2.2.2.1+1)),()),s.2.1,(()))))))))))) none) (some (.inr (.inr (((),()),(()),(())))))
def JP:=nx Gx
def PC[dE] :=Il Tryz.f42 [0] MD Gx [Q8,Oi,Og,Pv] [] (by kernel_rfl) λs=>by simp only[Gx,tm];kernel_rfl
def GC(a0:qg):Option (Bool×Unit):=
 (Eu a0.now 0 999).bind λy1=>br (!y1.1) (some (false,())) (br (!((a0.servers.length:Int)==5)) (some (false,())) ((JK a0.sides).bind λy2=>br (!y2.1) (some (false,())) ((HM a0.master).bind λy3=>br (!y3.1) (some (false,())) ((GS a0.lease).bind λy4=>br (!y4.1) (some (false,())) ((JV a0.places).bind λy5=>br (!y5.1) (some (false,())) ((Eu a0.masterUp 0 3).bind λy6=>br (!y6.1) (some (false,())) (br (decide (a0.lease.epoch>a0.master.activated)) (some (false,())) ((JP (((),a0.servers,(a0.servers.length:Int),0,()),((a0.now,a0.servers,a0.sides,a0.master.configs,a0.master.activated,a0.masterUp,a0.lease.epoch,a0.lease.holder,a0.lease.ends,a0.places,()),()),(()))).bind λe26=>Sum.elim (λe26_0=>some e26_0.1) (λ_=>some (true,())) e26))))))))
def KO[dE] :=EW 42 Tryz.f42 Sd [.b] (λx=>GC x.1) [Gj,RP,M7,Ql,U2] [PC] (by kernel_rfl) λx=>by simp only[GC,tm];kernel_rfl
def Fq(a0:List rk):Option ((List rk)×Unit):=iteP (a0.length*56<=2 ^ 40) (some (a0,())) none
def Ik[dE] :=coC 111 Tryz.f111 (.st .entry) 56 Fq (by kernel_rfl) (λ_=>rfl) λ_=>by kernel_rfl
def FW(a0:qj):Option (qj×Unit):=
 (FV a0.config).bind λy1=>(Fq a0.log).bind λy2=>(Fq a0.learned).bind λy3=>some ((⟨a0.up,a0.intact,a0.version,a0.epoch,y1.1,a0.first,y2.1,a0.commit,y3.1⟩:qj),())
def NU[dE] :=EW 79 Tryz.f79 TJ Zt (λx=>FW x.1) [L0,Ik] [] (by kernel_rfl) λx=>by simp only[FW,tm];kernel_rfl
abbrev OH:LX:=⟨⟨[MS,TK,(10,.cl (.ro (.st .config))),Sg,Pe],[Zv,WT],Zw,0,25⟩,[(.ext 0,⟨[MS,TK],[Zv,WT],Zw,0,25⟩)],[.b 2 0 (.st .config)],[2,3,10,11,12],[2,3]⟩
def H2(s: (Unit×Unit×List nF×Int×Int×Unit)×(UF×UF×Unit)×List nF×Unit):OH.R:=
 br (decide (s.1.2.2.2.2.1<s.1.2.2.2.1)) (iteP (0<=s.1.2.2.2.2.1) ((s.1.2.2.1[s.1.2.2.2.2.1.toNat]?).bind λx14=>(FV x14).bind λy15=>iteP ((s.2.2.1++([y15.1]:List nF)).length*64<=2 ^ 40) (some (.inl (((),(),s.1.2.2.1,s.1.2.2.2.1,(IntKind.wrap .i64 (s.1.2.2.2.2.1+1)),()),s.2.1,(s.2.2.1++([y15.1]:List nF)),()))) none) none) (some (.inr (((),(),()),s.2)))
def Ot:=nx H2
def Sw[dE] :=Il Tryz.f81 [0] OH H2 [L0] [] (by kernel_rfl) λs=>by simp only[H2,tm];kernel_rfl
def Jk(a0:jY):Option (jY×Unit):=
 (Ot (((),(),a0.configs,(a0.configs.length:Int),0,()),(((),0,()),((),a0.activated,()),()),([]:List nF),())).bind λe16=>some ((⟨e16.2.2.1,e16.2.1.2.1.2.1⟩:jY),())
def PU[dE] :=EW 81 Tryz.f81 Vp [.st .masterLog] (λx=>Jk x.1) [] [Sw] (by kernel_rfl) λx=>by simp only[Jk,tm];kernel_rfl
def Kg(a0:List uO):Option ((List uO)×Unit):=iteP (a0.length*24<=2 ^ 40) (some (a0,())) none
def R5[dE] :=coC 82 Tryz.f82 (.st .place) 24 Kg (by kernel_rfl) (λ_=>rfl) λ_=>by kernel_rfl
abbrev N5:LX:=⟨⟨[Kt,NE,Vq,(9,.cl (.ro (.st .server))),Si,Sg],[JA,Lw,WU],Zx,0,36⟩,[(.ext 0,⟨[Kt,NE,Vq],[JA,Lw,WU],Zx,0,36⟩)],[.b 2 1 (.st .server)],[1,2,3,9,10,11],[1,2,3]⟩
def Hv(s: (Unit×Unit×Unit×List qj×Int×Int×Unit)×(MT×LF×aaj×Unit)×List qj×Unit):N5.R:=
 br (decide (s.1.2.2.2.2.2.1<s.1.2.2.2.2.1)) (iteP (0<=s.1.2.2.2.2.2.1) ((s.1.2.2.2.1[s.1.2.2.2.2.2.1.toNat]?).bind λx60=>(FW x60).bind λy61=>iteP ((s.2.2.1++([y61.1]:List qj)).length*152<=2 ^ 40) (some (.inl (((),(),(),s.1.2.2.2.1,s.1.2.2.2.2.1,(IntKind.wrap .i64 (s.1.2.2.2.2.2.1+1)),()),s.2.1,(s.2.2.1++([y61.1]:List qj)),()))) none) none) (some (.inr (((),(),(),()),s.2)))
def N2:=nx Hv
def Rt[dE] :=Il Tryz.f28 [0] N5 Hv [NU] [] (by kernel_rfl) λs=>by simp only[Hv,tm];kernel_rfl
def FH(a0:qg):Option (qg×Unit):=
 (N2 (((),(),(),a0.servers,(a0.servers.length:Int),0,()),((a0.now,a0.servers,a0.sides,a0.master.configs,a0.master.activated,a0.masterUp,a0.lease.epoch,a0.lease.holder,a0.lease.ends,a0.places,()),(0,(),(),(),0,0,0,0,0,(),()),(a0.now,(),a0.sides,a0.master.configs,a0.master.activated,a0.masterUp,a0.lease.epoch,a0.lease.holder,a0.lease.ends,a0.places,()),()),([]:List qj),())).bind λe62=>(IA e62.2.1.1.2.2.1).bind λy63=>(Jk (⟨e62.2.1.1.2.2.2.1,e62.2.1.1.2.2.2.2.1⟩:jY)).bind λy64=>(Kg e62.2.1.1.2.2.2.2.2.2.2.2.2.1).bind λy65=>some ((⟨e62.2.1.2.2.1.1,e62.2.2.1,y63.1,y64.1,e62.2.1.2.2.1.2.2.2.2.2.1,(⟨e62.2.1.2.2.1.2.2.2.2.2.2.1,e62.2.1.2.2.1.2.2.2.2.2.2.2.1,e62.2.1.2.2.1.2.2.2.2.2.2.2.2.1⟩:uL),y65.1⟩:qg),())
def O6[dE] :=EW 28 Tryz.f28 Sd UG (λx=>FH x.1) [P2,PU,R5] [Rt] (by kernel_rfl) λx=>by simp only[FH,tm];kernel_rfl
def K9(a0:qg):Option (Bool×Unit):=
 some ((decide ((IntKind.wrap .i64 (2*a0.masterUp))>3)),())
def S8[dE] :=EW 43 Tryz.f43 Sd [.b] (λx=>K9 x.1) [] [] (by kernel_rfl) λx=>by simp only[K9,tm];kernel_rfl
def KG(a0:uL):Option (Int×Unit):=
 br ((a0.epoch==0)&&((a0.holder==0)&&((a0.ends==0)&&true))) (some (0,())) ((GS a0).bind λy1=>br (!y1.1) (some (0,())) (some ((IntKind.wrap .i64 (a0.ends+3)),())))
def V3[dE] :=EW 108 Tryz.f108 WM JR (λx=>KG x.1) [Ql] [] (by kernel_rfl) λx=>by simp only[KG,tm];kernel_rfl
def GJ(a0:uL)(a1:Int):Option (Bool×Unit):=
 (GS a0).bind λy1=>br y1.1 ((Eu a1 0 999).bind λy2=>br y2.1 ((KG a0).bind λy3=>some ((decide (a1≥y3.1)),())) (some (false,()))) (some (false,()))
def S6[dE] :=EW 44 Tryz.f44 Z3 [.b] (λx=>GJ x.1 x.2.1) [Ql,Gj,V3] [] (by kernel_rfl) λx=>by simp only[GJ,tm];kernel_rfl
def Fg(a0:jY):Option (nF×Bool×Unit):=
 (Iu a0 a0.activated).bind λy1=>some (y1.1,y1.2.1,())
def JH[dE] :=EW 15 Tryz.f15 Vp Wn (λx=>Fg x.1) [Pv] [] (by kernel_rfl) λx=>by simp only[Fg,tm];kernel_rfl
def Jc(a1:Int):Option ((List Int)×Unit):=
 br (decide (a1<0)) (none) (br (decide ((IntKind.wrap .i64 (a1-(IntKind.wrap .i64 (0-0))))>0)) (iteP ((0:Int)=0/\(0:Int)=0) (iteP (0< (IntKind.wrap .i64 (a1-(IntKind.wrap .i64 (0-0))))/\(IntKind.wrap .i64 (a1-(IntKind.wrap .i64 (0-0))))*((8:Nat):Int)<=2 ^ 40) (iteP (0<=(0:Int)/\(0:Int)<=(0:Int)/\(0:Int)<=(((IntKind.wrap .i64 (a1-(IntKind.wrap .i64 (0-0)))).toNat:Nat):Int)) (iteP ((0+(0:Int).toNat)=0/\((0:Int).toNat-(0:Int).toNat)<=(List.replicate (IntKind.wrap .i64 (a1-(IntKind.wrap .i64 (0-0)))).toNat (0:Int)).length) (some (((List.replicate (IntKind.wrap .i64 (a1-(IntKind.wrap .i64 (0-0)))).toNat (0:Int)).take ((0:Int).toNat-(0:Int).toNat)),())) (iteP ((0+(0:Int).toNat)+((0:Int).toNat-(0:Int).toNat)<=(List.replicate (IntKind.wrap .i64 (a1-(IntKind.wrap .i64 (0-0)))).toNat (0:Int)).length) (some ((((List.replicate (IntKind.wrap .i64 (a1-(IntKind.wrap .i64 (0-0)))).toNat (0:Int)).drop (0+(0:Int).toNat)).take ((0:Int).toNat-(0:Int).toNat)),())) none)) none) none) none) (some (([]:List Int),())))
def R7[dE] :=EW 242 Tryz.f242 [.nl,.ty (.i .i64)] L7 (λx=>Jc x.2.1) [] [] (by kernel_rfl) λx=>by simp only[Jc,tm,-eq_self];kernel_rfl
abbrev N9:LX:=⟨⟨[(0,.cl (.ro (.ls (.i .i64)))),Ng,(9,.cl (.ro (.ls (.i .i64)))),Si,Sg],[],[],0,36⟩,[(.ext 0,⟨[(0,.cl (.ro (.ls (.i .i64)))),Ng],[],[],0,36⟩)],[],[0,3,9,10,11],[0,3]⟩
def Hw(s: (List (List Int)×Int×List (List Int)×Int×Int×Unit)×Unit×Unit):N9.R:=
 br (decide (s.1.2.2.2.2.1<s.1.2.2.2.1)) (iteP (0<=s.1.2.2.2.2.1) ((s.1.2.2.1[s.1.2.2.2.2.1.toNat]?).bind λx6=>br (decide ((IntKind.wrap .i64 (s.1.2.1+(x6.length:Int)))<0)) (none) (some (.inl ((s.1.1,(IntKind.wrap .i64 (s.1.2.1+(x6.length:Int))),s.1.2.2.1,s.1.2.2.2.1,(IntKind.wrap .i64 (s.1.2.2.2.2.1+1)),()),(()),(()))))) none) (some (.inr ((s.1.1,s.1.2.1,()),(()),(()))))
def N3:=nx Hw
def RA[dE] :=Il Tryz.f190 [0] N9 Hw [] [] (by kernel_rfl) λs=>by simp only[Hw,tm];kernel_rfl
abbrev NM:LX:=⟨⟨[WP,(25,.cl (.ro (.ls (.i .i64)))),(26,.cl (.int .i64)),(27,.cl (.int .i64))],[],IB,0,36⟩,[(.ext 2,⟨[WP],[],IB,0,36⟩)],[],[6,25,26,27],[6]⟩
def He(s: (Unit×List (List Int)×Int×Int×Unit)×Unit×List Int×Unit):NM.R:=
 br (decide (s.1.2.2.2.1<s.1.2.2.1)) (iteP (0<=s.1.2.2.2.1) ((s.1.2.1[s.1.2.2.2.1.toNat]?).bind λx13=>iteP ((s.2.2.1++x13).length*8<=2 ^ 40) (some (.inl (((),s.1.2.1,s.1.2.2.1,(IntKind.wrap .i64 (s.1.2.2.2.1+1)),()),(()),(s.2.2.1++x13),()))) none) none) (some (.inr (((),()),(()),s.2.2)))
def ND:=nx He
def QG[dE] :=Il Tryz.f190 [1] NM He [] [] (by kernel_rfl) λs=>by simp only[He,tm];kernel_rfl
def Jv(a0:List (List Int)):Option ((List Int)×Unit):=
 (N3 ((a0,0,a0,(a0.length:Int),0,()),(()),(()))).bind λe7=>(Jc e7.1.2.1).bind λy8=>(ND (((),e7.1.1,(e7.1.1.length:Int),0,()),(()),y8.1,())).bind λe14=>some e14.2.2
def Tg[dE] :=EW 190 Tryz.f190 [.ty (.ls (.ls (.i .i64)))] L7 (λx=>Jv x.1) [R7] [RA,QG] (by kernel_rfl) λx=>by simp only[Jv,tm];kernel_rfl
def I6(a0:List Int)(a1:List Int):Option ((List Int)×Unit):=
 (Jv ([a0,a1]:List (List Int))).bind λy1=>(Io y1.1).bind λy2=>some (y2.1,())
def RS[dE] :=EW 113 Tryz.f113 UD L7 (λx=>I6 x.1 x.2.1) [Tg,QO] [] (by kernel_rfl) λx=>by simp only[I6,tm];kernel_rfl
def JX(a0:nF):Option ((List Int)×Unit):=
 (GX a0).bind λy1=>br (!y1.1) (some (([]:List Int),())) ((I6 a0.replicas a0.witnesses).bind λy2=>some (y2.1,()))
def QN[dE] :=EW 47 Tryz.f47 Wl L7 (λx=>JX x.1) [Ly,RS] [] (by kernel_rfl) λx=>by simp only[JX,tm];kernel_rfl
def HN(a0:List Int)(a1:Int)(a2:Int):Option (Bool×Unit):=
 (JK a0).bind λy1=>br y1.1 ((Eu a1 0 4).bind λy2=>br y2.1 ((Eu a2 0 4).bind λy3=>br y3.1 (iteP (0<=a1) ((a0[a1.toNat]?).bind λx4=>iteP (0<=a2) ((a0[a2.toNat]?).bind λx5=>some ((x4==x5),())) none) none) (some (false,()))) (some (false,()))) (some (false,()))
def Pw[dE] :=EW 65 Tryz.f65 Yd [.b] (λx=>HN x.1 x.2.1 x.2.2.1) [RP,Gj] [] (by kernel_rfl) λx=>by simp only[HN,tm];kernel_rfl
def J9(a0:qj)(a1:Int):Option (qj×Bool×Unit):=
 (FW a0).bind λy1=>(Eu a1 1 20).bind λy2=>br (!y2.1) (some (y1.1,false,())) (br (decide (a0.epoch<0)) (some (y1.1,false,())) (br (decide (a1<=a0.epoch)) (some (y1.1,false,())) (some ((⟨y1.1.up,y1.1.intact,y1.1.version,a1,y1.1.config,y1.1.first,y1.1.log,y1.1.commit,y1.1.learned⟩:qj),true,()))))
def Uh[dE] :=EW 109 Tryz.f109 UE Zu (λx=>J9 x.1 x.2.1) [NU,Gj] [] (by kernel_rfl) λx=>by simp only[J9,tm];kernel_rfl
abbrev LG:LX:=⟨⟨[Kz,Pb,QW,OB,(7,.cl (.ptr 2 0)),(38,.cl (.own 0 (.i .i64))),(39,.cl (.int .i64)),(40,.cl (.int .i64))],[JA,Lw,Wr],Yz,0,73⟩,[(.ext 0,⟨[(6,.cl (.ptr 0 0)),(7,.cl (.ptr 1 0))],[Lw,Vu],Xy,0,73⟩)],[],[1,2,3,6,7,38,39,40],[6,7]⟩
def FU(s: (Int×Int×Unit×Unit×Unit×Unit×Int×Int×Unit)×(MT×LF×LF×Unit)×List Int×List qj×List Int×List nF×List uO×Unit):LG.R:=
 br (decide (s.1.2.2.2.2.2.2.2.1<s.1.2.2.2.2.2.2.1)) (iteP (0<=s.1.2.2.2.2.2.2.2.1/\s.1.2.2.2.2.2.2.2.1< (s.2.2.1.length:Int)) ((s.2.2.1[s.1.2.2.2.2.2.2.2.1.toNat]?).bind λx37=>iteP (0<=x37/\x37< (s.2.2.2.1.length:Int)) ((s.2.2.2.1[x37.toNat]?).bind λx38=>let j49 (p48:List qj):LG.R:=some (.inl ((s.1.1,s.1.2.1,(),(),(),(),s.1.2.2.2.2.2.2.1,(IntKind.wrap .i64 (s.1.2.2.2.2.2.2.2.1+1)),()),s.2.1,s.2.2.1,p48,s.2.2.2.2));br x38.up ((HN s.2.1.1.2.2.1 s.1.1 x37).bind λy39=>br y39.1 (iteP (0<=x37/\x37< (s.2.2.2.1.length:Int)) ((s.2.2.2.1[x37.toNat]?).bind λx40=>(s.2.2.2.1[x37.toNat]?).bind λx41=>iteP (0+x40.config.replicas.length<=x41.config.replicas.length) ((s.2.2.2.1[x37.toNat]?).bind λx42=>iteP (0+x40.config.witnesses.length<=x42.config.witnesses.length) ((s.2.2.2.1[x37.toNat]?).bind λx43=>iteP (0+x40.log.length<=x43.log.length) ((s.2.2.2.1[x37.toNat]?).bind λx44=>iteP (0+x40.learned.length<=x44.learned.length) ((J9 (⟨x40.up,x40.intact,x40.version,x40.epoch,(⟨x40.config.epoch,x40.config.primary,((x41.config.replicas.drop 0).take x40.config.replicas.length),((x42.config.witnesses.drop 0).take x40.config.witnesses.length)⟩:nF),x40.first,((x43.log.drop 0).take x40.log.length),x40.commit,((x44.learned.drop 0).take x40.learned.length)⟩:qj) s.1.2.1).bind λy45=>iteP (0<=x37/\x37< (s.2.2.2.1.length:Int)) ((s.2.2.2.1[x37.toNat]?).bind λ_=>j49 (s.2.2.2.1.set x37.toNat y45.1)) none) none) none) none) none) none) (j49 s.2.2.2.1)) (j49 s.2.2.2.1)) none) none) (some (.inr (((),(),()),s.2.1.2,s.2.2.2)))
def LB:=nx FU
def Rr[dE] :=Il Tryz.f45 [0] LG FU [Pw,Uh] [] (by kernel_rfl) λs=>by simp only[FU,tm];kernel_rfl
def GK(a0:qg)(a1:Int)(a2:Int):Option (qg×Unit):=
 (FH a0).bind λy1=>(Fg a0.master).bind λy2=>(GC a0).bind λy3=>br (!y3.1) (some (y1.1,())) (br (!y2.2.1) (some (y1.1,())) ((Eu a2 1 (a0.master.configs.length:Int)).bind λy4=>br (!y4.1) (some (y1.1,())) ((JX y2.1).bind λy5=>(LB ((a1,a2,(),(),(),(),(y5.1.length:Int),0,()),((a0.now,a0.servers,a0.sides,a0.master.configs,a0.master.activated,a0.masterUp,a0.lease.epoch,a0.lease.holder,a0.lease.ends,a0.places,()),(0,(),(),(),0,0,0,0,0,(),()),(y1.1.now,(),(),(),y1.1.master.activated,y1.1.masterUp,y1.1.lease.epoch,y1.1.lease.holder,y1.1.lease.ends,(),()),()),y5.1,y1.1.servers,y1.1.sides,y1.1.master.configs,y1.1.places,())).bind λe50=>some ((⟨e50.2.1.2.1.1,e50.2.2.1,e50.2.2.2.1,(⟨e50.2.2.2.2.1,e50.2.1.2.1.2.2.2.2.1⟩:jY),e50.2.1.2.1.2.2.2.2.2.1,(⟨e50.2.1.2.1.2.2.2.2.2.2.1,e50.2.1.2.1.2.2.2.2.2.2.2.1,e50.2.1.2.1.2.2.2.2.2.2.2.2.1⟩:uL),e50.2.2.2.2.2.1⟩:qg),()))))
def S7[dE] :=EW 45 Tryz.f45 Se UG (λx=>GK x.1 x.2.1 x.2.2.1) [O6,JH,KO,Gj,QN] [Rr] (by kernel_rfl) λx=>by simp only[GK,tm];kernel_rfl
def Fd(a0:qg)(a1:Int):Option (Bool×Unit):=
 (GC a0).bind λy1=>br y1.1 ((Eu a1 0 4).bind λy2=>some (y2.1,())) (some (false,()))
def M8[dE] :=EW 63 Tryz.f63 LD [.b] (λx=>Fd x.1 x.2.1) [KO,Gj] [] (by kernel_rfl) λx=>by simp only[Fd,tm];kernel_rfl
def KH(a0:qg)(a1:Int)(a2:Int)(a3:Int):Option (Bool×Unit):=
 iteP (0<=a2) ((a0.servers[a2.toNat]?).bind λx1=>br x1.up ((HN a0.sides a1 a2).bind λy2=>br y2.1 (some ((x1.config.epoch==a3),())) (some (false,()))) (some (false,()))) none
def RT[dE] :=EW 64 Tryz.f64 Z7 [.b] (λx=>KH x.1 x.2.1 x.2.2.1 x.2.2.2.1) [Pw] [] (by kernel_rfl) λx=>by simp only[KH,tm];kernel_rfl
abbrev OF:LX:=⟨⟨[Kz,MS,MA,OB,(27,.cl (.own 1 (.i .i64))),(28,.cl (.int .i64)),(29,.cl (.int .i64))],[JA,Xx],Yy,0,45⟩,[(.ext 0,⟨[MA],[],IB,0,45⟩)],[],[1,2,5,6,27,28,29],[5]⟩
def H0(s: (Int×Unit×Unit×Unit×Unit×Int×Int×Unit)×(MT×Qx×Unit)×List Int×List Int×List Int×Unit):OF.R:=
 br (decide (s.1.2.2.2.2.2.2.1<s.1.2.2.2.2.2.1)) (iteP (0<=s.1.2.2.2.2.2.2.1/\s.1.2.2.2.2.2.2.1< (s.2.2.2.1.length:Int)) ((s.2.2.2.1[s.1.2.2.2.2.2.2.1.toNat]?).bind λx21=>(KH (⟨s.2.1.1.1,s.2.1.1.2.1,s.2.1.1.2.2.1,(⟨s.2.1.1.2.2.2.1,s.2.1.1.2.2.2.2.1⟩:jY),s.2.1.1.2.2.2.2.2.1,(⟨s.2.1.1.2.2.2.2.2.2.1,s.2.1.1.2.2.2.2.2.2.2.1,s.2.1.1.2.2.2.2.2.2.2.2.1⟩:uL),s.2.1.1.2.2.2.2.2.2.2.2.2.1⟩:qg) s.1.1 x21 s.2.1.2.1.1).bind λy22=>br y22.1 (iteP ((s.2.2.1++([x21]:List Int)).length*8<=2 ^ 40) (some (.inl ((s.1.1,(),(),(),(),s.1.2.2.2.2.2.1,(IntKind.wrap .i64 (s.1.2.2.2.2.2.2.1+1)),()),s.2.1,(s.2.2.1++([x21]:List Int)),s.2.2.2))) none) (some (.inl ((s.1.1,(),(),(),(),s.1.2.2.2.2.2.1,(IntKind.wrap .i64 (s.1.2.2.2.2.2.2.1+1)),()),s.2)))) none) (some (.inr (((),()),(()),s.2.2.1,())))
def Oo:=nx H0
def Su[dE] :=Il Tryz.f185 [0] OF H0 [RT] [] (by kernel_rfl) λs=>by simp only[H0,tm];kernel_rfl
def G6(a0:qg)(a1:Int):Option ((List Int)×Unit):=
 (Fg a0.master).bind λy1=>br (!y1.2.1) (some (([]:List Int),())) ((Fd a0 a1).bind λy2=>br (!y2.1) (some (([]:List Int),())) ((Oo ((a1,(),(),(),(),(y1.1.replicas.length:Int),0,()),((a0.now,a0.servers,a0.sides,a0.master.configs,a0.master.activated,a0.masterUp,a0.lease.epoch,a0.lease.holder,a0.lease.ends,a0.places,()),(y1.1.epoch,y1.1.primary,(),(),()),()),([]:List Int),y1.1.replicas,y1.1.witnesses,())).bind λe24=>some e24.2.2))
def Ui[dE] :=EW 185 Tryz.f185 LD L7 (λx=>G6 x.1 x.2.1) [JH,M8] [Su] (by kernel_rfl) λx=>by simp only[G6,tm];kernel_rfl
abbrev OE:LX:=⟨⟨[MS,NF,aah,Sg,Pe],[JA],IB,0,38⟩,[(.ext 0,⟨[NF],[],[],0,38⟩)],[],[2,5,10,11,12],[5]⟩
def HZ(s: (Unit×Int×Unit×Int×Int×Unit)×(MT×Unit)×List Int×Unit):OE.R:=
 br (decide (s.1.2.2.2.2.1<s.1.2.2.2.1)) (iteP (0<=s.1.2.2.2.2.1/\s.1.2.2.2.2.1< (s.2.2.1.length:Int)) ((s.2.2.1[s.1.2.2.2.2.1.toNat]?).bind λx16=>br (decide (s.1.2.1<0)) (some (.inl (((),x16,(),s.1.2.2.2.1,(IntKind.wrap .i64 (s.1.2.2.2.2.1+1)),()),s.2))) (iteP (0<=x16) ((s.2.1.1.2.1[x16.toNat]?).bind λx17=>iteP (0<=s.1.2.1) ((s.2.1.1.2.1[s.1.2.1.toNat]?).bind λx18=>br (decide ((x17.log.length:Int)>(x18.log.length:Int))) (some (.inl (((),x16,(),s.1.2.2.2.1,(IntKind.wrap .i64 (s.1.2.2.2.2.1+1)),()),s.2))) (some (.inl (((),s.1.2.1,(),s.1.2.2.2.1,(IntKind.wrap .i64 (s.1.2.2.2.2.1+1)),()),s.2)))) none) none)) none) (some (.inr ((s.1.2.1,()),(()),(()))))
def Mt:=nx HZ
def Ss[dE] :=Il Tryz.f110 [0] OE HZ [] [] (by kernel_rfl) λs=>by simp only[HZ,tm];kernel_rfl
def HF(a0:qg)(a1:Int):Option (Int×Unit):=
 (G6 a0 a1).bind λy1=>(Mt (((),(-1),(),(y1.1.length:Int),0,()),((a0.now,a0.servers,a0.sides,a0.master.configs,a0.master.activated,a0.masterUp,a0.lease.epoch,a0.lease.holder,a0.lease.ends,a0.places,()),()),y1.1,())).bind λe20=>some e20.1
def Uf[dE] :=EW 110 Tryz.f110 LD JR (λx=>HF x.1 x.2.1) [Ui] [Ss] (by kernel_rfl) λx=>by simp only[HF,tm];kernel_rfl
def IE(a0:qj):Option ((List rk)×Unit):=
 br (decide (a0.first<0)) (some (([]:List rk),())) ((Eu a0.commit a0.first (IntKind.wrap .i64 (a0.first+(a0.log.length:Int)))).bind λy1=>br (!y1.1) (some (([]:List rk),())) (iteP (0<=(0:Int)/\(0:Int)<=(IntKind.wrap .i64 (a0.commit-a0.first))/\(IntKind.wrap .i64 (a0.commit-a0.first))<=(a0.log.length:Int)) ((Fq ((a0.log.drop (0:Int).toNat).take ((IntKind.wrap .i64 (a0.commit-a0.first)).toNat-(0:Int).toNat))).bind λy2=>some (y2.1,())) none))
def Q5[dE] :=EW 133 Tryz.f133 TJ Wm (λx=>IE x.1) [Gj,Ik] [] (by kernel_rfl) λx=>by simp only[IE,tm];kernel_rfl
def Lf(a0:qj)(a1:Int):Option (Bool×Unit):=
 (HG a0.config.replicas a1).bind λy1=>some (y1.1,())
def U6[dE] :=EW 134 Tryz.f134 UE [.b] (λx=>Lf x.1 x.2.1) [MX] [] (by kernel_rfl) λx=>by simp only[Lf,tm];kernel_rfl
def Hy(a0:qj)(a1:Int):Option ((List rk)×Unit):=
 (IE a0).bind λy1=>(Lf a0 a1).bind λy2=>br y2.1 (br (decide ((y1.1.length:Int)>(a0.learned.length:Int))) (some (y1.1,())) ((Fq a0.learned).bind λy4=>some (y4.1,()))) ((Fq a0.learned).bind λy5=>some (y5.1,()))
def Q9[dE] :=EW 67 Tryz.f67 UE Wm (λx=>Hy x.1 x.2.1) [Q5,U6,Ik] [] (by kernel_rfl) λx=>by simp only[Hy,tm];kernel_rfl
def Ij(a1:Int):Option ((List rk)×Unit):=
 br (decide (a1<0)) (none) (br (decide ((IntKind.wrap .i64 (a1-(IntKind.wrap .i64 (0-0))))>0)) (iteP ((0:Int)=0/\(0:Int)=0) (iteP (0< (IntKind.wrap .i64 (a1-(IntKind.wrap .i64 (0-0))))/\(IntKind.wrap .i64 (a1-(IntKind.wrap .i64 (0-0))))*((56:Nat):Int)<=2 ^ 40) (iteP (0<=(0:Int)/\(0:Int)<=(0:Int)/\(0:Int)<=(((IntKind.wrap .i64 (a1-(IntKind.wrap .i64 (0-0)))).toNat:Nat):Int)) (iteP ((0+(0:Int).toNat)=0/\((0:Int).toNat-(0:Int).toNat)<=(List.replicate (IntKind.wrap .i64 (a1-(IntKind.wrap .i64 (0-0)))).toNat (⟨0,(⟨0,0,0,0,0,0⟩:Op)⟩:rk)).length) (some (((List.replicate (IntKind.wrap .i64 (a1-(IntKind.wrap .i64 (0-0)))).toNat (⟨0,(⟨0,0,0,0,0,0⟩:Op)⟩:rk)).take ((0:Int).toNat-(0:Int).toNat)),())) none) none) none) none) (some (([]:List rk),())))
def Qu[dE] :=EW 193 Tryz.f193 [.nl,.ty (.i .i64)] Wm (λx=>Ij x.2.1) [] [] (by kernel_rfl) λx=>by simp only[Ij,tm,-eq_self];kernel_rfl
abbrev M6:LX:=⟨⟨[(0,.cl (.ro (.ls (.st .entry)))),Ng,(9,.cl (.ro (.ls (.st .entry)))),Si,Sg],[],[],0,36⟩,[(.ext 0,⟨[(0,.cl (.ro (.ls (.st .entry)))),Ng],[],[],0,36⟩)],[],[0,3,9,10,11],[0,3]⟩
def GR(s: (List (List rk)×Int×List (List rk)×Int×Int×Unit)×Unit×Unit):M6.R:=
 br (decide (s.1.2.2.2.2.1<s.1.2.2.2.1)) (iteP (0<=s.1.2.2.2.2.1) ((s.1.2.2.1[s.1.2.2.2.2.1.toNat]?).bind λx6=>br (decide ((IntKind.wrap .i64 (s.1.2.1+(x6.length:Int)))<0)) (none) (some (.inl ((s.1.1,(IntKind.wrap .i64 (s.1.2.1+(x6.length:Int))),s.1.2.2.1,s.1.2.2.2.1,(IntKind.wrap .i64 (s.1.2.2.2.2.1+1)),()),(()),(()))))) none) (some (.inr ((s.1.1,s.1.2.1,()),(()),(()))))
def M2:=nx GR
def Qe[dE] :=Il Tryz.f132 [0] M6 GR [] [] (by kernel_rfl) λs=>by simp only[GR,tm];kernel_rfl
abbrev MN:LX:=⟨⟨[TN,(25,.cl (.ro (.ls (.st .entry)))),(26,.cl (.int .i64)),(27,.cl (.int .i64))],[],Zz,0,36⟩,[(.ext 2,⟨[TN],[],Zz,0,36⟩)],[],[6,25,26,27],[6]⟩
def GB(s: (Unit×List (List rk)×Int×Int×Unit)×Unit×List rk×Unit):MN.R:=
 br (decide (s.1.2.2.2.1<s.1.2.2.1)) (iteP (0<=s.1.2.2.2.1) ((s.1.2.1[s.1.2.2.2.1.toNat]?).bind λx13=>iteP ((s.2.2.1++x13).length*56<=2 ^ 40) (some (.inl (((),s.1.2.1,s.1.2.2.1,(IntKind.wrap .i64 (s.1.2.2.2.1+1)),()),(()),(s.2.2.1++x13),()))) none) none) (some (.inr (((),()),(()),s.2.2)))
def Mx:=nx GB
def PJ[dE] :=Il Tryz.f132 [1] MN GB [] [] (by kernel_rfl) λs=>by simp only[GB,tm];kernel_rfl
def HC(a0:List (List rk)):Option ((List rk)×Unit):=
 (M2 ((a0,0,a0,(a0.length:Int),0,()),(()),(()))).bind λe7=>(Ij e7.1.2.1).bind λy8=>(Mx (((),e7.1.1,(e7.1.1.length:Int),0,()),(()),y8.1,())).bind λe14=>some e14.2.2
def Rj[dE] :=EW 132 Tryz.f132 [.ty (.ls (.ls (.st .entry)))] Wm (λx=>HC x.1) [Qu] [Qe,PJ] (by kernel_rfl) λx=>by simp only[HC,tm];kernel_rfl
abbrev NN:LX:=⟨⟨[MB,Yh,Pe,Yk],[],[],0,26⟩,[(.ret,⟨[TL],[],[],0,26⟩),(.ext 0,⟨[Ow],[],[],0,26⟩)],[],[0,1,12,13],[4]⟩
def Hf(s:aas×Unit×Unit):NN.R:=
 br (decide (s.1.2.2.2.1<s.1.2.2.1)) (iteP (0<=s.1.2.2.2.1) ((s.1.1[s.1.2.2.2.1.toNat]?).bind λx5=>iteP (0<=s.1.2.2.2.1) ((s.1.2.1[s.1.2.2.2.1.toNat]?).bind λx6=>br (!((x5.epoch==x6.epoch)&&((x5.op.client==x6.op.client)&&((x5.op.seq==x6.op.seq)&&((x5.op.kind==x6.op.kind)&&((x5.op.object==x6.op.object)&&((x5.op.old==x6.op.old)&&((x5.op.value==x6.op.value)&&true)))))))) (some (.inr (.inl ((false,()),(()),(()))))) (some (.inl ((s.1.1,s.1.2.1,s.1.2.2.1,(IntKind.wrap .i64 (s.1.2.2.2.1+1)),()),(()),(()))))) none) none) (some (.inr (.inr (((),()),(()),(())))))
def KV:=nx Hf
def QH[dE] :=Il Tryz.f93 [0] NN Hf [] [] (by kernel_rfl) λs=>by simp only[Hf,tm];kernel_rfl
def Ii(a0:List rk)(a1:List rk):Option (Bool×Unit):=
 br (!((a0.length:Int)==(a1.length:Int))) (some (false,())) ((KV ((a0,a1,(a0.length:Int),0,()),(()),(()))).bind λe7=>Sum.elim (λe7_0=>some e7_0.1) (λ_=>some (true,())) e7)
def R6[dE] :=EW 93 Tryz.f93 WO [.b] (λx=>Ii x.1 x.2.1) [] [QH] (by kernel_rfl) λx=>by simp only[Ii,tm];kernel_rfl
def Mg(a0:List rk)(a1:Int)(a2:List rk):Option ((List rk)×Bool×Unit):=
 (IY a0).bind λy1=>br (!y1.1) (some (([]:List rk),false,())) ((Mh a1 a2).bind λy2=>br (!y2.1) (some (([]:List rk),false,())) (br (decide (a1>(a0.length:Int))) (some (([]:List rk),false,())) (iteP (0<=(if (IntKind.wrap .i64 ((a0.length:Int)-a1))< (a2.length:Int) then (IntKind.wrap .i64 ((a0.length:Int)-a1)) else (a2.length:Int))/\(if (IntKind.wrap .i64 ((a0.length:Int)-a1))< (a2.length:Int) then (IntKind.wrap .i64 ((a0.length:Int)-a1)) else (a2.length:Int))<=(a2.length:Int)/\(a2.length:Int)<=(a2.length:Int)) ((HC ([a0,((a2.drop (if (IntKind.wrap .i64 ((a0.length:Int)-a1))< (a2.length:Int) then (IntKind.wrap .i64 ((a0.length:Int)-a1)) else (a2.length:Int)).toNat).take ((a2.length:Int).toNat-(if (IntKind.wrap .i64 ((a0.length:Int)-a1))< (a2.length:Int) then (IntKind.wrap .i64 ((a0.length:Int)-a1)) else (a2.length:Int)).toNat))]:List (List rk))).bind λy3=>iteP (0<=a1/\a1<=(IntKind.wrap .i64 (a1+(if (IntKind.wrap .i64 ((a0.length:Int)-a1))< (a2.length:Int) then (IntKind.wrap .i64 ((a0.length:Int)-a1)) else (a2.length:Int))))/\(IntKind.wrap .i64 (a1+(if (IntKind.wrap .i64 ((a0.length:Int)-a1))< (a2.length:Int) then (IntKind.wrap .i64 ((a0.length:Int)-a1)) else (a2.length:Int))))<=(a0.length:Int)) (iteP (0<=(0:Int)/\(0:Int)<=(if (IntKind.wrap .i64 ((a0.length:Int)-a1))< (a2.length:Int) then (IntKind.wrap .i64 ((a0.length:Int)-a1)) else (a2.length:Int))/\(if (IntKind.wrap .i64 ((a0.length:Int)-a1))< (a2.length:Int) then (IntKind.wrap .i64 ((a0.length:Int)-a1)) else (a2.length:Int))<=(a2.length:Int)) ((Ii ((a0.drop a1.toNat).take ((IntKind.wrap .i64 (a1+(if (IntKind.wrap .i64 ((a0.length:Int)-a1))< (a2.length:Int) then (IntKind.wrap .i64 ((a0.length:Int)-a1)) else (a2.length:Int)))).toNat-a1.toNat)) ((a2.drop (0:Int).toNat).take ((if (IntKind.wrap .i64 ((a0.length:Int)-a1))< (a2.length:Int) then (IntKind.wrap .i64 ((a0.length:Int)-a1)) else (a2.length:Int)).toNat-(0:Int).toNat))).bind λy4=>br (!y4.1) (some (([]:List rk),false,())) ((IY y3.1).bind λy5=>br (!y5.1) (some (([]:List rk),false,())) (some (y3.1,true,())))) none) none) none)))
def V2[dE] :=EW 66 Tryz.f66 Z5 Xw (λx=>Mg x.1 x.2.1 x.2.2.1) [PS,U7,Rj,R6] [] (by kernel_rfl) λx=>by simp only[Mg,tm];kernel_rfl
abbrev LH:LX:=⟨⟨[Kz,MS,OB,WS,Pd,(12,.cl (.ptr 2 0)),Yl,Ym,Yn,(52,.cl (.ro (.st .server))),(53,.cl (.int .i64)),(54,.cl (.int .i64))],[JA,Yx,Yv],Xz,0,99⟩,[(.ext 2,⟨[Kz,MS,OB,WS,Pd,Yl,Ym,Yn],[JA,Yx],Xz,0,99⟩)],[],[1,2,6,8,9,12,33,34,35,52,53,54],[1,2,6,8,9,33,34,35]⟩
def Hu(s: (Int×Unit×Unit×Unit×Bool×Unit×Unit×Int×Int×List qj×Int×Int×Unit)×(MT×Qx×Yp×Unit)×List rk×List Int×List Int×Unit):LH.R:=
 br (decide (s.1.2.2.2.2.2.2.2.2.2.2.2.1<s.1.2.2.2.2.2.2.2.2.2.2.1)) (iteP (0<=s.1.2.2.2.2.2.2.2.2.2.2.2.1) ((s.1.2.2.2.2.2.2.2.2.2.1[s.1.2.2.2.2.2.2.2.2.2.2.2.1.toNat]?).bind λx59=>let j65 (p63:List rk) (p64:Bool):LH.R:=some (.inl ((s.1.1,(),(),(),p64,(),(),s.1.2.2.2.2.2.2.2.1,s.1.2.2.2.2.2.2.2.2.1,s.1.2.2.2.2.2.2.2.2.2.1,s.1.2.2.2.2.2.2.2.2.2.2.1,(IntKind.wrap .i64 (s.1.2.2.2.2.2.2.2.2.2.2.2.1+1)),()),s.2.1,p63,s.2.2.2));br (!x59.up) (j65 s.2.2.1 s.1.2.2.2.2.1) ((HN s.2.1.1.2.2.1 s.1.1 s.1.2.2.2.2.2.2.2.2.2.2.2.1).bind λy60=>br (!y60.1) (j65 s.2.2.1 s.1.2.2.2.2.1) ((Hy x59 s.1.2.2.2.2.2.2.2.2.2.2.2.1).bind λy61=>(Mg y61.1 s.2.1.2.2.1.2.2.2.2.2.2.2.2.1 s.2.1.2.2.1.2.2.2.2.2.2.2.2.2.1).bind λy62=>br y62.2.1 (br (!s.1.2.2.2.2.1) (j65 y62.1 true) (br (decide ((y62.1.length:Int)>(s.2.2.1.length:Int))) (j65 y62.1 true) (j65 s.2.2.1 s.1.2.2.2.2.1))) (j65 s.2.2.1 s.1.2.2.2.2.1)))) none) (some (.inr ((s.1.1,(),(),(),s.1.2.2.2.2.1,(),s.1.2.2.2.2.2.2.2.1,s.1.2.2.2.2.2.2.2.2.1,()),(s.2.1.1,s.2.1.2.1,()),s.2.2)))
def N1:=nx Hu
def Rs[dE] :=Il Tryz.f22 [0,0] LH Hu [Pw,Q9,V2] [] (by kernel_rfl) λs=>by simp only[Hu,tm];kernel_rfl
abbrev OG:LX:=⟨⟨[Kz,MS,OB,WS,Pd,Yl,Ym,Yn],[JA,Yx],Xz,0,99⟩,[(.ext 0,⟨[WS,Pd],[],Zz,0,99⟩)],[],[1,2,6,8,9,33,34,35],[8,9]⟩
def H1(s: (Int×Unit×Unit×Unit×Bool×Unit×Int×Int×Unit)×(MT×Qx×Unit)×List rk×List Int×List Int×Unit):OG.R:=
 br (decide (s.1.2.2.2.2.2.2.2.1<s.1.2.2.2.2.2.2.1)) (iteP (0<=s.1.2.2.2.2.2.2.2.1/\s.1.2.2.2.2.2.2.2.1< (s.2.2.2.1.length:Int)) ((s.2.2.2.1[s.1.2.2.2.2.2.2.2.1.toNat]?).bind λx22=>(KH (⟨s.2.1.1.1,s.2.1.1.2.1,s.2.1.1.2.2.1,(⟨s.2.1.1.2.2.2.1,s.2.1.1.2.2.2.2.1⟩:jY),s.2.1.1.2.2.2.2.2.1,(⟨s.2.1.1.2.2.2.2.2.2.1,s.2.1.1.2.2.2.2.2.2.2.1,s.2.1.1.2.2.2.2.2.2.2.2.1⟩:uL),s.2.1.1.2.2.2.2.2.2.2.2.2.1⟩:qg) s.1.1 x22 s.2.1.2.1.1).bind λy23=>br (!y23.1) (some (.inl ((s.1.1,(),(),(),s.1.2.2.2.2.1,(),s.1.2.2.2.2.2.2.1,(IntKind.wrap .i64 (s.1.2.2.2.2.2.2.2.1+1)),()),s.2))) (iteP (0<=x22) ((s.2.1.1.2.1[x22.toNat]?).bind λx24=>(N1 ((s.1.1,(),(),(),s.1.2.2.2.2.1,(),(),s.1.2.2.2.2.2.2.1,s.1.2.2.2.2.2.2.2.1,s.2.1.1.2.1,(s.2.1.1.2.1.length:Int),0,()),(s.2.1.1,s.2.1.2.1,(x24.up,x24.intact,x24.version,x24.epoch,x24.config.epoch,x24.config.primary,x24.config.replicas,x24.config.witnesses,x24.first,x24.log,x24.commit,x24.learned,()),()),s.2.2)).bind λe66=>some (.inl ((e66.1.1,(),(),(),e66.1.2.2.2.2.1,(),e66.1.2.2.2.2.2.2.1,(IntKind.wrap .i64 (e66.1.2.2.2.2.2.2.2.1+1)),()),e66.2))) none)) none) (some (.inr (((),s.1.2.2.2.2.1,()),(()),s.2.2.1,())))
def Oq:=nx H1
def Sv[dE] :=Il Tryz.f22 [0] OG H1 [RT] [Rs] (by kernel_rfl) λs=>by simp only[H1,tm];kernel_rfl
def HH(a0:qg)(a1:Int):Option ((List rk)×Bool×Unit):=
 (Fg a0.master).bind λy1=>br (!y1.2.1) (some (([]:List rk),false,())) ((Fd a0 a1).bind λy2=>br (!y2.1) (some (([]:List rk),false,())) ((Oq ((a1,(),(),(),false,(),(y1.1.witnesses.length:Int),0,()),((a0.now,a0.servers,a0.sides,a0.master.configs,a0.master.activated,a0.masterUp,a0.lease.epoch,a0.lease.holder,a0.lease.ends,a0.places,()),(y1.1.epoch,y1.1.primary,(),(),()),()),([]:List rk),y1.1.witnesses,y1.1.replicas,())).bind λe86=>br (!e86.1.2.1) (some (([]:List rk),false,())) (some (e86.2.2.1,true,()))))
def Uj[dE] :=EW 22 Tryz.f22 LD Xw (λx=>HH x.1 x.2.1) [JH,M8] [Sv] (by kernel_rfl) λx=>by simp only[HH,tm];kernel_rfl
def Im(a0:qg)(a1:Int):Option ((List rk)×Bool×Unit):=
 (Fd a0 a1).bind λy1=>br (!y1.1) (some (([]:List rk),false,())) (br (a0.master.activated==0) (some (([]:List rk),true,())) ((HF a0 a1).bind λy2=>br (decide (y2.1≥0)) (iteP (0<=y2.1) ((a0.servers[y2.1.toNat]?).bind λx3=>(Fq x3.log).bind λy4=>some (y4.1,true,())) none) ((HH a0 a1).bind λy5=>some (y5.1,y5.2.1,()))))
def U5[dE] :=EW 46 Tryz.f46 LD Xw (λx=>Im x.1 x.2.1) [M8,Uf,Ik,Uj] [] (by kernel_rfl) λx=>by simp only[Im,tm];kernel_rfl
def NT(a0:qg)(a1:Int):Option (Bool×Unit):=
 iteP (0<=a1) ((a0.servers[a1.toNat]?).bind λx1=>br x1.up (iteP (0<=a1) ((a0.sides[a1.toNat]?).bind λx2=>some ((x2==0),())) none) (some (false,()))) none
def V4[dE] :=EW 50 Tryz.f50 LD [.b] (λx=>NT x.1 x.2.1) [] [] (by kernel_rfl) λx=>by simp only[NT,tm];kernel_rfl
def Js(a0:Int)(a1:qg):Option (Bool×Unit):=
 (NT a1 a0).bind λy1=>some ((!y1.1),())
def SX[dE] :=EW 49 Tryz.f49 aac [.b] (λx=>Js x.1 x.2.1) [V4] [] (by kernel_rfl) λx=>by simp only[Js,tm];kernel_rfl
abbrev HV:LX:=⟨⟨[NX,(1,.fn 49 [.pro (.st .cluster)]),OA,Ox],[],[],0,19⟩,[(.ret,⟨[Oz],[],[],0,19⟩),(.ext 0,⟨[Ow],[],[],0,19⟩)],[],[0,1,7,8],[4]⟩
def EY(s: (List Int×(qg×Unit)×Int×Int×Unit)×Unit×Unit):HV.R:=
 br (decide (s.1.2.2.2.1<s.1.2.2.1)) (iteP (0<=s.1.2.2.2.1) ((s.1.1[s.1.2.2.2.1.toNat]?).bind λx5=>(Js x5 s.1.2.1.1).bind λy6=>br y6.1 (some (.inr (.inl (s.1.2.2.2,(()),(()))))) (some (.inl ((s.1.1,s.1.2.1,s.1.2.2.1,(IntKind.wrap .i64 (s.1.2.2.2.1+1)),()),(()),(()))))) none) (some (.inr (.inr (((),()),(()),(())))))
def Gt:=nx EY
def KA[dE] :=Il Tryz.f114 [0] HV EY [SX] [] (by kernel_rfl) λs=>by simp only[EY,tm];kernel_rfl
def FO(a0:List Int)(a1_0:qg):Option (Int×Unit):=
 (Gt ((a0,(a1_0,()),(a0.length:Int),0,()),(()),(()))).bind λe7=>Sum.elim (λe7_0=>some e7_0.1) (λ_=>some ((-1),())) e7
def Ls[dE] :=EW 114 Tryz.f114 [.ty (.ls (.i .i64)),.fn 49 UG] JR (λx=>FO x.1 x.2.1.1) [] [KA] (by kernel_rfl) λx=>by simp only[FO,tm];kernel_rfl
def EU(a0:List Int)(a1_0:qg):Option (Bool×Unit):=
 (FO a0 a1_0).bind λy1=>some ((decide (y1.1≥0)),())
def Kj[dE] :=EW 48 Tryz.f48 [.ty (.ls (.i .i64)),.fn 49 UG] [.b] (λx=>EU x.1 x.2.1.1) [Ls] [] (by kernel_rfl) λx=>by simp only[EU,tm];kernel_rfl
def K7(a0:Op):Option (Bool×Unit):=
 some ((a0.kind==2),())
def S4[dE] :=EW 117 Tryz.f117 Vn [.b] (λx=>K7 x.1) [] [] (by kernel_rfl) λx=>by simp only[K7,tm];kernel_rfl
def IZ(a0:rk):Option (Bool×Unit):=
 (K7 a0.op).bind λy1=>some (y1.1,())
def PT[dE] :=EW 116 Tryz.f116 [.ty (.st .entry)] [.b] (λx=>IZ x.1) [S4] [] (by kernel_rfl) λx=>by simp only[IZ,tm];kernel_rfl
abbrev GV:LX:=⟨⟨[MB,(1,.cl (.fc 116)),OA,Ox],[],[],0,19⟩,[(.ret,⟨[Oz],[],[],0,19⟩),(.ext 0,⟨[Ow],[],[],0,19⟩)],[],[0,1,7,8],[4]⟩
def EC(s:aaq×Unit×Unit):GV.R:=
 br (decide (s.1.2.2.2.1<s.1.2.2.1)) (iteP (0<=s.1.2.2.2.1) ((s.1.1[s.1.2.2.2.1.toNat]?).bind λx4=>(IZ x4).bind λy5=>br y5.1 (some (.inr (.inl (s.1.2.2.2,(()),(()))))) (some (.inl ((s.1.1,(),s.1.2.2.1,(IntKind.wrap .i64 (s.1.2.2.2.1+1)),()),(()),(()))))) none) (some (.inr (.inr (((),()),(()),(())))))
def FL:=nx EC
def Jm[dE] :=Il Tryz.f39 [0] GV EC [PT] [] (by kernel_rfl) λs=>by simp only[EC,tm];kernel_rfl
def Fs(a0:List rk):Option (Int×Unit):=
 (FL ((a0,(),(a0.length:Int),0,()),(()),(()))).bind λe6=>Sum.elim (λe6_0=>some e6_0.1) (λ_=>some ((-1),())) e6
def Jy[dE] :=EW 39 Tryz.f39 aad JR (λx=>Fs x.1) [] [Jm] (by kernel_rfl) λx=>by simp only[Fs,tm];kernel_rfl
def Fj(a0:List rk):Option (Bool×Unit):=
 (Fs a0).bind λy1=>some ((decide (y1.1≥0)),())
def Je[dE] :=EW 115 Tryz.f115 aad [.b] (λx=>Fj x.1) [Jy] [] (by kernel_rfl) λx=>by simp only[Fj,tm];kernel_rfl
def Ia(a0:List rk):Option (Bool×Unit):=
 (Fj a0).bind λy1=>some (y1.1,())
def Oh[dE] :=EW 51 Tryz.f51 P6 [.b] (λx=>Ia x.1) [Je] [] (by kernel_rfl) λx=>by simp only[Ia,tm];kernel_rfl
def K5(a0:Int)(a1:qg):Option (Bool×Unit):=
 iteP (0<=a0) ((a1.servers[a0.toNat]?).bind λx1=>some ((x1.version==1),())) none
def SY[dE] :=EW 52 Tryz.f52 aac [.b] (λx=>K5 x.1 x.2.1) [] [] (by kernel_rfl) λx=>by simp only[K5,tm];kernel_rfl
abbrev HW:LX:=⟨⟨[NX,(1,.fn 52 [.pro (.st .cluster)]),OA,Ox],[],[],0,19⟩,[(.ret,⟨[Oz],[],[],0,19⟩),(.ext 0,⟨[Ow],[],[],0,19⟩)],[],[0,1,7,8],[4]⟩
def EF(s: (List Int×(qg×Unit)×Int×Int×Unit)×Unit×Unit):HW.R:=
 br (decide (s.1.2.2.2.1<s.1.2.2.1)) (iteP (0<=s.1.2.2.2.1) ((s.1.1[s.1.2.2.2.1.toNat]?).bind λx5=>(K5 x5 s.1.2.1.1).bind λy6=>br y6.1 (some (.inr (.inl (s.1.2.2.2,(()),(()))))) (some (.inl ((s.1.1,s.1.2.1,s.1.2.2.1,(IntKind.wrap .i64 (s.1.2.2.2.1+1)),()),(()),(()))))) none) (some (.inr (.inr (((),()),(()),(())))))
def Gu:=nx EF
def KB[dE] :=Il Tryz.f114 [0] HW EF [SY] [] (by kernel_rfl) λs=>by simp only[EF,tm];kernel_rfl
def FP(a0:List Int)(a1_0:qg):Option (Int×Unit):=
 (Gu ((a0,(a1_0,()),(a0.length:Int),0,()),(()),(()))).bind λe7=>Sum.elim (λe7_0=>some e7_0.1) (λ_=>some ((-1),())) e7
def Lt[dE] :=EW 114 Tryz.f114 [.ty (.ls (.i .i64)),.fn 52 UG] JR (λx=>FP x.1 x.2.1.1) [] [KB] (by kernel_rfl) λx=>by simp only[FP,tm];kernel_rfl
def EV(a0:List Int)(a1_0:qg):Option (Bool×Unit):=
 (FP a0 a1_0).bind λy1=>some ((decide (y1.1≥0)),())
def Kk[dE] :=EW 48 Tryz.f48 [.ty (.ls (.i .i64)),.fn 52 UG] [.b] (λx=>EV x.1 x.2.1.1) [Lt] [] (by kernel_rfl) λx=>by simp only[EV,tm];kernel_rfl
def Nq(a0:List rk):Option (Int×(List rk)×Unit):=
 (IY a0).bind λy1=>br (!y1.1) (some (0,([]:List rk),())) (iteP (0<=(if (IntKind.wrap .i64 ((a0.length:Int)-3))>0 then (IntKind.wrap .i64 ((a0.length:Int)-3)) else 0)/\(if (IntKind.wrap .i64 ((a0.length:Int)-3))>0 then (IntKind.wrap .i64 ((a0.length:Int)-3)) else 0)<=(a0.length:Int)/\(a0.length:Int)<=(a0.length:Int)) ((Fq ((a0.drop (if (IntKind.wrap .i64 ((a0.length:Int)-3))>0 then (IntKind.wrap .i64 ((a0.length:Int)-3)) else 0).toNat).take ((a0.length:Int).toNat-(if (IntKind.wrap .i64 ((a0.length:Int)-3))>0 then (IntKind.wrap .i64 ((a0.length:Int)-3)) else 0).toNat))).bind λy2=>some ((if (IntKind.wrap .i64 ((a0.length:Int)-3))>0 then (IntKind.wrap .i64 ((a0.length:Int)-3)) else 0),y2.1,())) none)
def Xl[dE] :=EW 121 Tryz.f121 P6 aa4 (λx=>Nq x.1) [PS,Ik] [] (by kernel_rfl) λx=>by simp only[Nq,tm];kernel_rfl
def IH(a0:qj)(a1:nF)(a2:Int)(a3:List rk):Option (qj×Bool×Unit):=
 (J8 a1 a2).bind λy1=>br (y1.1==0) ((FW a0).bind λy2=>some (y2.1,false,())) ((IY a3).bind λy3=>br (!y3.1) ((FW a0).bind λy4=>some (y4.1,false,())) ((Eu a0.version 1 2).bind λy5=>br (!y5.1) ((FW a0).bind λy6=>some (y6.1,false,())) ((Eu a0.epoch 0 a1.epoch).bind λy7=>br (!y7.1) ((FW a0).bind λy8=>some (y8.1,false,())) ((I7 a3).bind λy9=>br (decide (y9.1>a1.epoch)) ((FW a0).bind λy10=>some (y10.1,false,())) (let j18:Option (qj×Bool×Unit):=(FV a1).bind λy13=>(Fq a3).bind λy14=>br (y1.1==3) ((Nq a3).bind λy15=>some ((⟨a0.up,true,a0.version,a1.epoch,y13.1,y15.1,y15.2.1,(a3.length:Int),([]:List rk)⟩:qj),true,())) (some ((⟨a0.up,true,a0.version,a1.epoch,y13.1,0,y14.1,(a3.length:Int),([]:List rk)⟩:qj),true,()));br (a0.version==1) ((Ia a3).bind λy11=>br y11.1 ((FW a0).bind λy12=>some (y12.1,false,())) (j18)) (j18))))))
def Q7[dE] :=EW 53 Tryz.f53 Z6 Zu (λx=>IH x.1 x.2.1 x.2.2.1 x.2.2.2.1) [U4,NU,PS,Gj,Oi,Oh,L0,Ik,Xl] [] (by kernel_rfl) λx=>by simp only[IH,tm];kernel_rfl
def H7(a0:jY)(a1:Int):Option (jY×Bool×Unit):=
 (Jk a0).bind λy1=>(HM a0).bind λy2=>br (!y2.1) (some (y1.1,false,())) (br (!(a1==(a0.configs.length:Int))) (some (y1.1,false,())) (br (decide (a1<=a0.activated)) (some (y1.1,false,())) (some ((⟨y1.1.configs,a1⟩:jY),true,()))))
def Qk[dE] :=EW 54 Tryz.f54 WN Yr (λx=>H7 x.1 x.2.1) [PU,M7] [] (by kernel_rfl) λx=>by simp only[H7,tm];kernel_rfl
abbrev Pg:LX:=⟨⟨[MS,QV,Yj,QZ,(101,.cl (.own 1 (.i .i64))),(102,.cl (.int .i64)),(103,.cl (.int .i64))],[Lw,Yu,[.int .i64,.own 4 (.st .server),.own 5 (.i .i64),.own 6 (.st .config),.int .i64,.int .i64,.int .i64,.int .i64,.int .i64,.own 7 (.st .place)]],[.st .entry,.i .i64,.i .i64,.i .i64,.st .server,.i .i64,.st .config,.st .place],0,136⟩,[(.ext 1,⟨[MS,QV,Yj],[Lw,Yw,Sk],[.i .i64,.i .i64,.st .server,.i .i64,.st .config,.st .place],0,136⟩)],[],[2,4,6,7,101,102,103],[2,4,6]⟩
def IQ(s: (Unit×Unit×Unit×Unit×Unit×Int×Int×Unit)×(LF×Qx×LF×Unit)×List rk×List Int×List Int×List Int×List qj×List Int×List nF×List uO×Unit):Pg.R:=
 br (decide (s.1.2.2.2.2.2.2.1<s.1.2.2.2.2.2.1)) (iteP (0<=s.1.2.2.2.2.2.2.1/\s.1.2.2.2.2.2.2.1< (s.2.2.2.1.length:Int)) ((s.2.2.2.1[s.1.2.2.2.2.2.2.1.toNat]?).bind λx44=>iteP (0<=x44/\x44< (s.2.2.2.2.2.2.1.length:Int)) ((s.2.2.2.2.2.2.1[x44.toNat]?).bind λx45=>(s.2.2.2.2.2.2.1[x44.toNat]?).bind λx46=>iteP (0+x45.config.replicas.length<=x46.config.replicas.length) ((s.2.2.2.2.2.2.1[x44.toNat]?).bind λx47=>iteP (0+x45.config.witnesses.length<=x47.config.witnesses.length) ((s.2.2.2.2.2.2.1[x44.toNat]?).bind λx48=>iteP (0+x45.log.length<=x48.log.length) ((s.2.2.2.2.2.2.1[x44.toNat]?).bind λx49=>iteP (0+x45.learned.length<=x49.learned.length) ((IH (⟨x45.up,x45.intact,x45.version,x45.epoch,(⟨x45.config.epoch,x45.config.primary,((x46.config.replicas.drop 0).take x45.config.replicas.length),((x47.config.witnesses.drop 0).take x45.config.witnesses.length)⟩:nF),x45.first,((x48.log.drop 0).take x45.log.length),x45.commit,((x49.learned.drop 0).take x45.learned.length)⟩:qj) (⟨s.2.1.2.1.1,s.2.1.2.1.2.1,s.2.2.2.2.1,s.2.2.2.2.2.1⟩:nF) x44 s.2.2.1).bind λy50=>iteP (0<=x44/\x44< (s.2.2.2.2.2.2.1.length:Int)) ((s.2.2.2.2.2.2.1[x44.toNat]?).bind λ_=>some (.inl (((),(),(),(),(),s.1.2.2.2.2.2.1,(IntKind.wrap .i64 (s.1.2.2.2.2.2.2.1+1)),()),s.2.1,s.2.2.1,s.2.2.2.1,s.2.2.2.2.1,s.2.2.2.2.2.1,(s.2.2.2.2.2.2.1.set x44.toNat y50.1),s.2.2.2.2.2.2.2))) none) none) none) none) none) none) none) (some (.inr (((),(),(),()),s.2.1,s.2.2.2.2)))
def O9:=nx IQ
def To[dE] :=Il Tryz.f14 [0] Pg IQ [Q7] [] (by kernel_rfl) λs=>by simp only[IQ,tm];kernel_rfl
def Md(a0:qg):Option (qg×Int×Unit):=
 (J7 a0.master).bind λy1=>(GC a0).bind λy2=>br (!y2.1) ((FH a0).bind λy3=>some (y3.1,1,())) (br (!y1.2.1) ((FH a0).bind λy4=>some (y4.1,1,())) (br (decide (y1.1.epoch<=a0.master.activated)) ((FH a0).bind λy5=>some (y5.1,1,())) ((K9 a0).bind λy6=>br (!y6.1) ((FH a0).bind λy7=>some (y7.1,8,())) (iteP (0<=y1.1.primary) ((a0.servers[y1.1.primary.toNat]?).bind λx8=>br (!x8.up) ((FH a0).bind λy9=>some (y9.1,2,())) (iteP (0<=y1.1.primary) ((a0.sides[y1.1.primary.toNat]?).bind λx10=>br (!(x10==0)) ((FH a0).bind λy11=>some (y11.1,10,())) ((GJ a0.lease a0.now).bind λy12=>br (!y12.1) ((FH a0).bind λy13=>some (y13.1,7,())) ((GK a0 y1.1.primary y1.1.epoch).bind λy14=>(Im y14.1 y1.1.primary).bind λy15=>br (!y15.2.1) (some (y14.1,9,())) ((JX y1.1).bind λy16=>(EU y16.1 y14.1).bind λy17=>br y17.1 (some (y14.1,10,())) ((Ia y15.1).bind λy18=>let j55:Option (qg×Int×Unit):=(O9 (((),(),(),(),(),(y16.1.length:Int),0,()),((0,(),(),(),0,0,0,0,0,(),()),(y1.1.epoch,y1.1.primary,(),(),()),(y14.1.now,(),(),(),y14.1.master.activated,y14.1.masterUp,y14.1.lease.epoch,y14.1.lease.holder,y14.1.lease.ends,(),()),()),y15.1,y16.1,y1.1.replicas,y1.1.witnesses,y14.1.servers,y14.1.sides,y14.1.master.configs,y14.1.places,())).bind λe53=>(H7 (⟨e53.2.2.2.2.2.2.1,e53.2.1.2.2.1.2.2.2.2.1⟩:jY) e53.2.1.2.1.1).bind λy54=>some ((⟨e53.2.1.2.2.1.1,e53.2.2.2.2.1,e53.2.2.2.2.2.1,y54.1,e53.2.1.2.2.1.2.2.2.2.2.1,(⟨0,0,0⟩:uL),e53.2.2.2.2.2.2.2.1⟩:qg),0,());br y18.1 ((EV y16.1 y14.1).bind λy19=>br y19.1 (some (y14.1,6,())) (j55)) (j55)))))) none)) none))))
def VZ[dE] :=EW 14 Tryz.f14 Sd OC (λx=>Md x.1) [Ug,KO,O6,S8,S6,S7,U5,QN,(Ds 1 49 Kj Kk rfl),Oh,Qk] [To] (by kernel_rfl) λx=>by simp only[Md,tm];kernel_rfl
abbrev NG:LX:=⟨⟨[MB,Yh,NF],[],[],0,30⟩,[(.ext 0,⟨[NF],[],[],0,30⟩)],[],[0,1,5],[5]⟩
def Gw(s:aap×Unit×Unit):NG.R:=
 br (decide (s.1.2.2.1< (s.1.1.length:Int))) (br (decide (s.1.2.2.1< (s.1.2.1.length:Int))) (iteP (0<=s.1.2.2.1) ((s.1.1[s.1.2.2.1.toNat]?).bind λx4=>iteP (0<=s.1.2.2.1) ((s.1.2.1[s.1.2.2.1.toNat]?).bind λx5=>br ((x4.epoch==x5.epoch)&&((x4.op.client==x5.op.client)&&((x4.op.seq==x5.op.seq)&&((x4.op.kind==x5.op.kind)&&((x4.op.object==x5.op.object)&&((x4.op.old==x5.op.old)&&((x4.op.value==x5.op.value)&&true))))))) (some (.inl ((s.1.1,s.1.2.1,(IntKind.wrap .i64 (s.1.2.2.1+1)),()),(()),(())))) (some (.inr (s.1.2.2,(()),(()))))) none) none) (some (.inr (s.1.2.2,(()),(()))))) (some (.inr (s.1.2.2,(()),(()))))
def KR:=nx Gw
def QA[dE] :=Il Tryz.f59 [0] NG Gw [] [] (by kernel_rfl) λs=>by simp only[Gw,tm];kernel_rfl
def H8(a0:List rk)(a1:List rk):Option (Int×Unit):=
 (KR ((a0,a1,0,()),(()),(()))).bind λe6=>some e6.1
def RQ[dE] :=EW 59 Tryz.f59 WO JR (λx=>H8 x.1 x.2.1) [] [QA] (by kernel_rfl) λx=>by simp only[H8,tm];kernel_rfl
def Me(a0:List rk)(a1:List rk):Option (Bool×Unit):=
 (H8 a0 a1).bind λy1=>some ((y1.1==(a0.length:Int)),())
def V0[dE] :=EW 17 Tryz.f17 WO [.b] (λx=>Me x.1 x.2.1) [RQ] [] (by kernel_rfl) λx=>by simp only[Me,tm];kernel_rfl
abbrev MO:LX:=⟨⟨[(5,.cl (.ptr 0 0)),(11,.cl (.row 0 9 7)),(12,.cl (.own 1 (.i .i64))),Yk],[Sk],[.st .server,.i .i64,.st .server,.i .i64,.st .config,.st .place],0,87⟩,[(.ret,⟨[M3],[],[],0,87⟩),(.ext 0,⟨[O2],[],[],0,87⟩)],[],[5,11,12,13],[2]⟩
def Ir(s: (Unit×(Nat×Nat×Nat)×Unit×Int×Unit)×(LF×Unit)×List qj×List Int×List qj×List Int×List nF×List uO×Unit):MO.R:=
 br (decide (s.1.2.2.2.1< (s.2.2.2.1.length:Int))) (iteP (0<=s.1.2.2.2.1/\s.1.2.2.2.1< (s.2.2.2.1.length:Int)) ((s.2.2.2.1[s.1.2.2.2.1.toNat]?).bind λx22=>iteP (0<=x22/\x22< (s.2.2.2.2.1.length:Int)) ((s.2.2.2.2.1[x22.toNat]?).bind λx23=>(s.2.2.2.2.1[x22.toNat]?).bind λx24=>iteP (0+x23.config.replicas.length<=x24.config.replicas.length) ((s.2.2.2.2.1[x22.toNat]?).bind λx25=>iteP (0+x23.config.witnesses.length<=x25.config.witnesses.length) ((s.2.2.2.2.1[x22.toNat]?).bind λx26=>iteP (0+x23.log.length<=x26.log.length) ((s.2.2.2.2.1[x22.toNat]?).bind λx27=>iteP (0+x23.learned.length<=x27.learned.length) ((EB (⟨x23.up,x23.intact,x23.version,x23.epoch,(⟨x23.config.epoch,x23.config.primary,((x24.config.replicas.drop 0).take x23.config.replicas.length),((x25.config.witnesses.drop 0).take x23.config.witnesses.length)⟩:nF),x23.first,((x26.log.drop 0).take x23.log.length),x23.commit,((x27.learned.drop 0).take x23.learned.length)⟩:qj)).bind λy28=>(s.2.2.1[s.1.2.1.1]?).bind λx29=>iteP (s.1.2.1.2.1+s.1.2.1.2.2<=x29.log.length) ((Me y28.1 ((x29.log.drop s.1.2.1.2.1).take s.1.2.1.2.2)).bind λy30=>br (!y30.1) (some (.inr (.inl ((false,()),(()),(()))))) (some (.inl (((),s.1.2.1,(),(IntKind.wrap .i64 (s.1.2.2.2.1+1)),()),s.2)))) none) none) none) none) none) none) none) (some (.inr (.inr (((),()),(()),(())))))
def PB:=nx Ir
def PK[dE] :=Il Tryz.f4 [0] MO Ir [IJ,V0] [] (by kernel_rfl) λs=>by simp only[Ir,tm];kernel_rfl
def JG[dE](a0:Hd):Option (Bool×Unit):=
 (XU a0).bind λy1=>br y1.1 (some (true,())) ((II a0).bind λy2=>(Ip y2.1 y2.2.1).bind λy3=>(Md y3.1).bind λy4=>br (!(y4.2.1==0)) (some (true,())) ((Fg y4.1.master).bind λy5=>br (!y5.2.1) (some (false,())) (br (!((y4.1.servers.length:Int)==5)) (some (false,())) (br (decide (y5.1.primary<0)) (some (false,())) (br (decide (y5.1.primary≥5)) (some (false,())) (iteP (0<=y5.1.primary/\y5.1.primary< (y4.1.servers.length:Int)) ((y4.1.servers[y5.1.primary.toNat]?).bind λx6=>(Fn y3.1 y5.1.primary).bind λy7=>(PB (((),(y5.1.primary.toNat,0,x6.log.length),(),0,()),((y3.1.now,(),(),(),y3.1.master.activated,y3.1.masterUp,y3.1.lease.epoch,y3.1.lease.holder,y3.1.lease.ends,(),()),()),y4.1.servers,y7.1,y3.1.servers,y3.1.sides,y3.1.master.configs,y3.1.places,())).bind λe31=>Sum.elim (λe31_0=>some e31_0.1) (λ_=>some (true,())) e31) none))))))
def Rm[dE] :=EW 4 Tryz.f4 [.ty (.h)] [.b] (λx=>JG x.1) [abB,Ra,Vd,VZ,JH,P0] [PK] (by kernel_rfl) λx=>by simp only[JG,tm];kernel_rfl
end
end Go.Proofs.YtkghndikalnipacGreat.En
