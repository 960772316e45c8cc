/- Printed by a program: the walk. -/
import Derived.Test.YtkghndikalnipaaGreatZTh
set_option linter.unusedSimpArgs false
set_option linter.unusedVariables false
namespace Go.Proofs.YtkghndikalnipaaGreat.En
open Go
noncomputable section
abbrev oI:List Ty:=[.i .i64]
abbrev pG:List Ty:=[.ls (.i .i64)]
abbrev wj:List Ty:=[.st .cluster,.i .i64]
abbrev Pc:List Ty:=[.st .cluster]
abbrev Pd:List Ty:=[.ls (.st .entry)]
abbrev Rm:List Ty:=[.st .config,.b]
abbrev Ui:List Ty:=[.st .server]
abbrev Uj:List Ty:=[.st .config]
abbrev Uk:List Ty:=[.st .masterLog]
abbrev Ul:List Ty:=[.st .machine]
abbrev Rn:List Ty:=[.ls (.st .entry),.b]
abbrev Ve:List Ty:=[.st .machine,.st .result,.b]
abbrev Vf:List Ty:=[.i .i64,.ls (.st .entry)]
abbrev Vg:List Ty:=[.st .cluster,.st .reply]
abbrev tc:List mY:=[.ty (.st .cluster),.ty (.i .i64)]
abbrev Bn:List mY:=[.ty (.ls (.st .entry))]
abbrev FH:List mY:=[.ty (.i .i64)]
abbrev FI:List mY:=[.ty (.st .cluster)]
abbrev FJ:List mY:=[.ty (.st .cluster),.ty (.i .i64),.ty (.i .i64)]
abbrev HZ:List mY:=[.ty (.ls (.i .i64)),.ty (.ls (.i .i64))]
abbrev Md:List mY:=[.ty (.ls (.i .i64))]
abbrev Me:List mY:=[.ty (.st .config)]
abbrev Mf:List mY:=[.ty (.st .server),.ty (.i .i64)]
abbrev Pe:List mY:=[.ty (.st .masterLog)]
abbrev Kq:List mY:=[.ty (.st .server)]
abbrev Kr:List mY:=[.ty (.ls (.i .i64)),.ty (.i .i64)]
abbrev Ks:List mY:=[.ty (.st .op)]
abbrev NU:List mY:=[.ty (.st .machine)]
abbrev NV:List mY:=[.ty (.ls (.st .entry)),.ty (.ls (.st .entry))]
abbrev Rp:List mY:=[.ty (.i .i64),.ty (.i .i64),.ty (.i .i64)]
abbrev Rq:List mY:=[.ty (.ls (.st .place))]
abbrev Rr:List mY:=[.ty (.st .lease)]
abbrev Rs:List mY:=[.ty (.st .masterLog),.ty (.i .i64)]
abbrev Rt:List mY:=[.ty (.ls (.st .entry)),.ty (.i .i64),.ty (.i .i64)]
abbrev Ru:List mY:=[.ty (.st .machine),.ty (.i .i64)]
abbrev Rv:List mY:=[.ty (.st .cluster),.ty (.i .i64),.ty (.st .op)]
abbrev Rx:List mY:=[.ty (.ls (.st .entry)),.ty (.i .i64)]
abbrev Vh:List mY:=[.ty (.st .config),.ty (.st .config)]
abbrev Vi:List mY:=[.ty (.st .config),.ty (.i .i64)]
abbrev Vj:List mY:=[.ty (.st .machine),.ty (.st .op)]
abbrev Vk:List mY:=[.ty (.ls (.i .i64)),.ty (.i .i64),.ty (.i .i64)]
abbrev Vl:List mY:=[.ty (.i .i64),.ty (.ls (.st .entry))]
abbrev Vm:List mY:=[.ty (.st .cluster),.ty (.st .event)]
abbrev Vn:List mY:=[.ty (.ls (.i .i64)),.fc 234]
abbrev Vo:List mY:=[.ty (.i .i64),.ty (.i .i64)]
abbrev Vp:List mY:=[.ty (.ls (.st .place)),.fc 236]
abbrev Vq:List mY:=[.ty (.ls (.i .i64)),.fc 253]
abbrev ur:Type:=(Int×Unit×Unit×Unit×Int×Int×Int×Int×Int×Unit×Unit)
abbrev vw:Type:=(Int×List eu×List Int×List ey×Int×Int×Int×Int×Int×List fB×Unit)
abbrev Ei:Type:=(Unit×Int×Unit)
abbrev H0:Type:=(Unit×Unit×Unit)
abbrev H1:Type:=(Int×Int×Unit×Unit×Unit)
abbrev Mg:Type:=(Unit×Unit×Int×Unit)
abbrev Um:Type:=(Unit×Unit×Unit×Int×Unit)
abbrev Un:Type:=(List Int×List en×Unit)
abbrev Uo:Type:=(Bool×Int×Unit)
abbrev WT:Type:=(List ey×Int×Unit)
abbrev Ry:Type:=(List Int×List Int×Unit×Int×Unit)
abbrev Rz:Type:=(Int×Unit×Unit×Unit×Bool×Int×Unit)
abbrev RA:Type:=(Unit×Unit×Unit×Unit×Unit×Unit×Int×Unit)
abbrev Vr:Type:=(Int×Unit×List Int×List ey×Int×Int×Int×Int×Int×List fB×Unit)
abbrev Vs:Type:=(List Int×Int×Unit)
abbrev Vt:Type:=(List Int×Int×Int×Unit)
abbrev Vu:Type:=(List eA×Int×Unit)
abbrev Vv:Type:=(Int×Int×Bool×Int×Unit)
abbrev Vw:Type:=(Unit×Unit×Unit×Unit×Bool×Unit×Int×Unit)
abbrev Vx:Type:=(Int×Int×Int×Int×Int×Int×Unit)
abbrev Vy:Type:=(List Int×Unit×Int×Unit)
abbrev Vz:Type:=(Unit×Int×Unit×Int×Unit)
abbrev VA:Type:=(List eA×List eA×Int×Unit)
abbrev VB:Type:=(Bool×Bool×Int×Int×Int×Int×List Int×List Int×Int×List eA×Int×List eA×Unit)
abbrev VD:Type:=(List Int×Unit×Int×Int×Unit)
abbrev VE:Type:=(List Int×List Int×Int×Int×Unit)
abbrev VF:Type:=(List eA×List eA×Int×Int×Unit)
abbrev od:Nat×ki:=(1,.cl (.ptr 0 0))
abbrev qX:Nat×ki:=(1,.cl (.int .i64))
abbrev so:Nat×ki:=(5,.cl (.int .i64))
abbrev tW:Nat×ki:=(4,.cl (.int .i64))
abbrev ut:Nat×ki:=(2,.cl (.ptr 0 0))
abbrev vx:Nat×ki:=(3,.cl (.int .i64))
abbrev wk:Nat×ki:=(0,.cl (.ro (.i .i64)))
abbrev wJ:Nat×ki:=(0,.cl (.ro (.st .entry)))
abbrev ye:Nat×ki:=(2,.cl (.dead))
abbrev yf:Nat×ki:=(7,.cl (.int .i64))
abbrev tE:Nat×ki:=(2,.cl (.bl))
abbrev tF:Nat×ki:=(6,.cl (.int .i64))
abbrev uu:Nat×ki:=(2,.cl (.ptr 1 0))
abbrev uv:Nat×ki:=(5,.cl (.own 0 (.i .i64)))
abbrev uw:Nat×ki:=(4,.cl (.ptr 0 0))
abbrev vT:Nat×ki:=(12,.cl (.int .i64))
abbrev vU:Nat×ki:=(6,.cl (.ptr 1 0))
abbrev wK:Nat×ki:=(4,.cl (.dead))
abbrev wL:Nat×ki:=(0,.cl (.own 0 (.i .i64)))
abbrev yt:Nat×ki:=(4,.cl (.ptr 1 0))
abbrev yu:Nat×ki:=(8,.cl (.int .i64))
abbrev Ag:Nat×ki:=(1,.cl (.ro (.i .i64)))
abbrev Ah:Nat×ki:=(2,.cl (.int .i64))
abbrev Ai:Nat×ki:=(3,.cl (.ptr 0 0))
abbrev Ce:Nat×ki:=(0,.cl (.ro (.st .place)))
abbrev Cf:Nat×ki:=(3,.cl (.ptr 1 0))
abbrev Cg:Nat×ki:=(9,.cl (.bl))
abbrev Ch:Nat×ki:=(3,.cl (.own 0 (.i .i64)))
abbrev Ci:Nat×ki:=(4,.cl (.ptr 2 0))
abbrev Cj:Nat×ki:=(5,.cl (.ptr 3 0))
abbrev Ej:Nat×ki:=(0,.cl (.pt 0 3))
abbrev Ek:Nat×ki:=(4,.cl (.bl))
abbrev El:Nat×ki:=(10,.cl (.int .i64))
abbrev Em:Nat×ki:=(7,.cl (.own 0 (.st .entry)))
abbrev Eo:Nat×ki:=(9,.cl (.own 1 (.i .i64)))
abbrev GN:Nat×ki:=(11,.cl (.int .i64))
abbrev Kt:Nat×ki:=(3,.cl (.ptr 2 0))
abbrev Ku:Nat×ki:=(7,.cl (.ptr 3 0))
abbrev Kv:Nat×ki:=(8,.cl (.bl))
abbrev Kw:Nat×ki:=(7,.cl (.bl))
abbrev NW:Nat×ki:=(5,.cl (.ptr 2 0))
abbrev NX:Nat×ki:=(11,.cl (.ptr 4 0))
abbrev NY:Nat×ki:=(6,.cl (.own 0 (.i .i64)))
abbrev NZ:Nat×ki:=(8,.cl (.own 0 (.i .i64)))
abbrev N0:Nat×ki:=(6,.cl (.own 0 (.st .entry)))
abbrev N1:Nat×ki:=(3,.cl (.str))
abbrev N2:Nat×ki:=(3,.cl (.own 1 (.i .i64)))
abbrev N3:Nat×ki:=(3,.cl (.own 1 (.st .entry)))
abbrev N4:Nat×ki:=(13,.cl (.int .i64))
abbrev RB:Nat×ki:=(6,.cl (.dead))
abbrev RC:Nat×ki:=(5,.cl (.dead))
abbrev RD:Nat×ki:=(7,.cl (.own 0 (.i .i64)))
abbrev RE:Nat×ki:=(9,.cl (.own 0 (.i .i64)))
abbrev RF:Nat×ki:=(1,.cl (.ro (.st .entry)))
abbrev RG:Nat×ki:=(8,.cl (.ptr 1 0))
abbrev RH:Nat×ki:=(16,.cl (.int .i64))
abbrev RI:Nat×ki:=(17,.cl (.int .i64))
abbrev VG:Nat×ki:=(3,.cl (.own 1 (.st .place)))
abbrev VH:Nat×ki:=(5,.cl (.own 1 (.st .event)))
abbrev VI:Nat×ki:=(11,.cl (.own 1 (.i .i64)))
abbrev VJ:Nat×ki:=(7,.cl (.own 0 (.st .reply)))
abbrev lq:List Ty:=[.i .i64]
abbrev Kx:List Ty:=[.i .i64,.st .session]
abbrev Mh:List Ty:=[.st .entry,.i .i64,.st .server,.i .i64,.st .config,.st .place,.i .i64,.i .i64]
abbrev RJ:List Ty:=[.st .server,.i .i64,.st .config,.st .place]
abbrev Up:List Ty:=[.st .config]
abbrev Uq:List Ty:=[.st .server]
abbrev Ur:List Ty:=[.i .i64,.st .server,.i .i64,.st .config,.st .place]
abbrev Us:List Ty:=[.st .cur,.i .i64]
abbrev Ut:List Ty:=[.st .cur,.st .entry]
abbrev WU:List Ty:=[.i .i64,.i .i64]
abbrev RK:List Ty:=[.st .entry,.i .i64,.i .i64]
abbrev VK:List Ty:=[.st .server,.i .i64,.st .place]
abbrev VL:List Ty:=[.i .i64,.i .i64,.i .i64,.i .i64]
abbrev VN:List Ty:=[.i .i64,.i .i64,.i .i64]
abbrev VO:List Ty:=[.st .reply,.st .server,.i .i64,.st .config,.st .place]
abbrev pH:List Sh:=[.int .i64,.ro (.st .server),.ro (.i .i64),.ro (.st .config),.int .i64,.int .i64,.int .i64,.int .i64,.int .i64,.ro (.st .place)]
abbrev td:List Sh:=[.int .i64,.em,.em,.em,.int .i64,.int .i64,.int .i64,.int .i64,.int .i64,.em]
abbrev H2:List Sh:=[.int .i64,.own 2 (.st .server),.own 3 (.i .i64),.own 4 (.st .config),.int .i64,.int .i64,.int .i64,.int .i64,.int .i64,.own 5 (.st .place)]
abbrev Ky:List Sh:=[.ro (.i .i64),.ro (.st .session)]
abbrev Kz:List Sh:=[.em,.em]
abbrev KA:List Sh:=[.bl,.int .i64]
abbrev KB:List Sh:=[.own 0 (.i .i64),.own 1 (.st .session)]
abbrev Mi:List Sh:=[.ro (.st .config),.int .i64]
abbrev Mj:List Sh:=[.int .i64,.own 0 (.st .server),.own 1 (.i .i64),.own 2 (.st .config),.int .i64,.int .i64,.int .i64,.int .i64,.int .i64,.own 3 (.st .place)]
abbrev Ml:List Sh:=[.int .i64,.int .i64,.own 6 (.i .i64),.own 7 (.i .i64)]
abbrev GO:List Sh:=[.em,.int .i64]
abbrev GP:List Sh:=[.int .i64,.int .i64,.bl,.int .i64]
abbrev GQ:List Sh:=[.int .i64,.own 1 (.st .server),.own 2 (.i .i64),.own 3 (.st .config),.int .i64,.int .i64,.int .i64,.int .i64,.int .i64,.own 4 (.st .place)]
abbrev KC:List Sh:=[.int .i64,.int .i64,.own 1 (.i .i64),.own 2 (.i .i64)]
abbrev N5:List Sh:=[.own 0 (.st .config),.int .i64]
abbrev N6:List Sh:=[.int .i64,.own 0 (.st .server),.ro (.i .i64),.ro (.st .config),.int .i64,.int .i64,.int .i64,.int .i64,.int .i64,.ro (.st .place)]
abbrev N7:List Sh:=[.int .i64,.int .i64,.int .i64,.int .i64,.int .i64,.int .i64]
abbrev VP:List Sh:=[.int .i64,.own 0 (.st .server),.own 1 (.i .i64),.em,.int .i64,.int .i64,.int .i64,.int .i64,.int .i64,.own 2 (.st .place)]
abbrev VQ:List Sh:=[.int .i64,.int .i64,.em,.em]
abbrev VS:List Sh:=[.int .i64,.int .i64,.own 2 (.i .i64),.own 3 (.i .i64)]
abbrev VT:List Sh:=[.bl,.bl,.int .i64,.int .i64,.int .i64,.int .i64,.ro (.i .i64),.ro (.i .i64),.int .i64,.ro (.st .entry),.int .i64,.ro (.st .entry)]
abbrev VU:List Sh:=[.int .i64,.int .i64,.own 0 (.i .i64),.own 1 (.i .i64)]
abbrev VV:List Sh:=[.own 1 (.st .config),.int .i64]
def Zf:ByteArray:=⟨⟨[0,1,2,2,3,3,3,3,4,4,4,4,4,4,4,4,5,5,5,5,5,5,5,5,5,5,5,5,5,5,5,5,6,6,6,6,6,6,6,6,6,6,6,6,6,6,6,6,6,6,6,6,6,6,6,6,6,6,6,6,6,6,6,6,7,7,7,7,7,7,7,7,7,7,7,7,7,7,7,7,7,7,7,7,7,7,7,7,7,7,7,7,7,7,7,7,7,7,7,7,7,7,7,7,7,7,7,7,7,7,7,7,7,7,7,7,7,7,7,7,7,7,7,7,7,7,7,7,8,8,8,8,8,8,8,8,8,8,8,8,8,8,8,8,8,8,8,8,8,8,8,8,8,8,8,8,8,8,8,8,8,8,8,8,8,8,8,8,8,8,8,8,8,8,8,8,8,8,8,8,8,8,8,8,8,8,8,8,8,8,8,8,8,8,8,8,8,8,8,8,8,8,8,8,8,8,8,8,8,8,8,8,8,8,8,8,8,8,8,8,8,8,8,8,8,8,8,8,8,8,8,8,8,8,8,8,8,8,8,8,8,8,8,8,8,8,8,8,8,8,8,8,8,8,8,8]⟩⟩
theorem lP:Tryz.prog.follows .mixedOrders=true:=by kernel_rfl
abbrev ky[eg] :=@Ze _ _ Ko lP _
abbrev fw[eg] :=@Y9 _ _ Ko lP _
abbrev Zb[eg] :=@YI _ _ Ko lP _
abbrev YU[eg] :=@YJ _ _ Ko lP _
abbrev Yv[eg] :=@YN _ _ Ko lP _
abbrev Db[eg] :=@YK _ _ Ko lP _
abbrev Zg[eg] :=@YL _ _ Ko lP _
def RL(a0:Hd):Option (Bool×Unit):=some (decide (1048576< (a0.n:Int)),())
section
open Go.RowKit
theorem Pf(x:Hd)(w:World):Calls Tryz.prog 7 #[.slice x.a x.n x.c] w λe w'=>e= .returned (.bool (decide (1048576< (x.n:Int))))/\Below w.heap.size w w':=by
 have mixed:Tryz.prog.follows .mixedOrders=true:=lP
 go_enter Tryz.func7,Tryz.ntmps7
 go_wp2
 go_ret
 exact⟨rfl,Below.refl _ _⟩
end
def XY[eg] :=YO (P:=Tryz.prog) 7 (by kernel_rfl) (Af Tryz.func7 (by kernel_rfl) rfl) [.ty .h] [.b] rfl rfl (λx=>RL x.1) λx y h w=>by obtain rfl:=Option.some.inj h;exact Pf x.1 w
def H3[eg](a0:Hd):Option (List gE×Unit):=(HY a0).map λc=>([c],())
section
open Go.RowKit
set_option maxHeartbeats 4000000 in
set_option maxRecDepth 100000 in
theorem KD[eg](x:Hd)(c:gE)(hx:HY x=some c)(w:World)(hB: ∀a v,eg.w.cell? a=some v->w.cell? a=some v):
  Calls Tryz.prog 45 #[.slice x.a x.n x.c] w λr w'=> ∃b cs e,r= .returned (.pointer (some ⟨b,0,none⟩))/\Below w.heap.size w w'/\w.heap.size<=b/\w'.heap[b]? =some (.cells cs e (0,0))/\cs.size=3/\tD cs 0 c:=by
 have mixed:Tryz.prog.follows .mixedOrders=true:=lP;obtain⟨l,hl,rfl⟩:=ak.1 hx;obtain⟨hlen,hg⟩:=zt hl
 have hg2: ∀ (k:Nat) m,l[k]? =some m-> ∃ad,x.a=some ad/\w.cell? (ad.add k)=some (.int .u8 m):=λk m hk=>by obtain⟨ad,h1,h2⟩:=hg k m hk;exact⟨ad,h1,hB _ _ h2⟩
 clear hg hB hl hx;obtain⟨a,n,cp⟩:=x;simp only at hlen hg2 ⊢;obtain⟨h0,hh0⟩: ∃h0,h0=wrap64 (10101+(n:Int)):=⟨_,rfl⟩
 rw[<-hh0];obtain⟨hf,hhf⟩: ∃hf,hf=(l.take 4000).foldl Pb h0:=⟨_,rfl⟩
 rw[<-hhf]
 go_enter Tryz.func45,Tryz.ntmps45
 go_wp2
 rw[<-hh0]
 go_loop [3,4] (λh i=> ∃k:Nat,k<=n/\k<=4000/\i= .int .i64 k/\h= .int .i64 ((l.take k).foldl Pb h0)) (λ_ i=>n-(intOf i).toNat)
 case atStart=>exact⟨0,aB _,aB _,rfl,by rw[dp,List.foldl_nil]⟩
 case round=>
  obtain⟨k,hk,hk4,rfl,rfl⟩:=hrel;clear hh0;by_cases h1:k<n
  ·by_cases h2:k<4000
   ·have hgk:l[k]? =some l[k] :=ah (by omega);obtain⟨ad,rfl,hc⟩:=hg2 k _ hgk
    have hnext: (l.take (k+1)).foldl Pb h0=Pb ((l.take k).foldl Pb h0) l[k] :=by rw[bI,hgk,List.foldl_append,dB,List.foldl_cons,List.foldl_nil]
    generalize l[k] =m at hc hnext hgk;clear hg2
    go_wp2
    refine⟨⟨k+1,h1,h2,by rw[Int.natCast_succ],by rw[hnext];rfl⟩,?_⟩;simp only[intOf];omega
   ·have hk0:l.take 4000=l.take k:=by rw[show k=4000 by omega]
    clear hg2
    go_wp2
    go_ret
    rw[hk0] at hhf;subst hhf;exact⟨_,rfl,(Below.refl _ w).alloc (au _) _,au _,_,⟨_,oQ w _⟩,rfl,rfl,rfl,rfl⟩
  ·have hk0:l.take 4000=l.take k:=by rw[bG (by omega),bG (by omega)]
   clear hg2
   go_wp2
   go_ret
   rw[hk0] at hhf;subst hhf;exact⟨_,rfl,(Below.refl _ w).alloc (au _) _,au _,_,⟨_,oQ w _⟩,rfl,rfl,rfl,rfl⟩
end
def Uu[eg] :=XH (P:=Tryz.prog) 45 (by kernel_rfl) (Af Tryz.func45 (by kernel_rfl) rfl) HY KD
def ux[eg](a0:List gE):Option (List gE×Int×Unit):=XF xR a0
section
open Go.RowKit
set_option maxHeartbeats 4000000 in
set_option maxRecDepth 100000 in
theorem H4[eg](c:gE)(y:gE×Int)(hy:xR c=some y)(w:World)(b O:Nat)(cs:Array Value)(e:TypeId)(hB: ∀a v,eg.w.cell? a=some v->w.cell? a=some v/\a.block≠b)(hb:w.heap[b]? =some (.cells cs e (0,0)))(hc:tD cs O c):
   Calls Tryz.prog 152 #[.pointer (some ⟨b,O,none⟩)] w λr w'=>r= .returned (.int .i64 y.2)/\w'.os=w.os/\w'.tape=w.tape/\w'.output=w.output/\w'.heap.size=w.heap.size/\(∀k,k≠b->w'.heap[k]? =w.heap[k]?)/\ ∃cs',w'.heap[b]? =some (.cells cs' e (0,0))/\cs'.size=cs.size/\tD cs' O y.1/\ ∀k,(k<O\/O+3<=k)->cs'[k]? =cs[k]? :=by
 have mixed:Tryz.prog.follows .mixedOrders=true:=lP;have h0:w.cell? ⟨b,O,none⟩=some (.slice c.b.a c.b.n c.b.c):=by simp[World.cell?,hb,hc.1]
 have h1:w.cell? ⟨b,O+1,none⟩=some (.int .i64 c.i):=by simp[World.cell?,hb,hc.2.1]
 have h2:w.cell? ⟨b,O+2,none⟩=some (.int .i64 c.h):=by simp[World.cell?,hb,hc.2.2]
 have hf1:w.frozen? ⟨b,O+1,none⟩=false:=by simp[World.frozen?,hb]
 have hf2:w.frozen? ⟨b,O+2,none⟩=false:=by simp[World.frozen?,hb]
 unfold xR at hy;split at hy
 ·rename_i hi;split at hy
  ·rename_i hi0;obtain⟨m,hm,rfl⟩:=ak.1 hy;obtain⟨l,hl,hm⟩:=ai.1 hm;obtain⟨_,hg⟩:=zt hl;obtain⟨ad,ha,hcell⟩:=hg _ _ hm;obtain⟨hc2,hne⟩:=hB _ _ hcell;rw[mT] at hne;clear hy hg hB hl;obtain⟨⟨a,n,cp⟩,i,h⟩:=c;simp only at hi hi0 ha h0 h1 h2 hc2 hm ⊢;subst ha;clear hm hcell;have hk: ∀v,(w.setCell ⟨b,O+2,none⟩ v).cell? (ad.add i.toNat)=some (.int .u8 m):=λv=>(World.cell?_setCell_other w _ _ v (λe=>hne (by rw[<-mT ad i.toNat,<-e]))).trans hc2
   go_enter Tryz.func152,Tryz.ntmps152
   go_wp2
   go_region
   go_wp2
   go_region
   go_wp2
   go_region
   go_wp2
   go_ret
   exact⟨rfl,rfl,rfl,rfl,NT hb hc (.inl rfl)⟩
  ·cases hy
 ·rename_i hi;obtain rfl:=Option.some.inj hy;obtain⟨⟨a,n,cp⟩,i,h⟩:=c;simp only at hi h0 h1 h2 ⊢;clear hy hB
  go_enter Tryz.func152,Tryz.ntmps152
  go_wp2
  go_region
  go_wp2
  go_region
  go_wp2
  go_ret
  exact⟨rfl,rfl,rfl,rfl,NT hb hc (.inr ⟨rfl,rfl⟩)⟩
end
def RM[eg] :=XG (P:=Tryz.prog) 152 (by kernel_rfl) (Af Tryz.func152 (by kernel_rfl) rfl) xR H4
def eF[eg](a0:List gE)(a1:Int):Option ((List gE)×Int×Unit):=
 br (decide (a1<=0)) (some (a0,0,())) (br (decide (a1<=256)) ((ux a0).bind λy1=>iteP (y1.1.length=a0.length) (iteP (a1=0) none (some (y1.1,(Int.tmod y1.2.1 a1),()))) none) ((ux a0).bind λy2=>iteP (y2.1.length=a0.length) ((ux y2.1).bind λy3=>iteP (y3.1.length=y2.1.length) ((ux y3.1).bind λy4=>iteP (y4.1.length=y3.1.length) ((ux y4.1).bind λy5=>iteP (y5.1.length=y4.1.length) (iteP (a1=0) none (some (y5.1,(Int.tmod (IntKind.wrap .i64 ((IntKind.wrap .i64 ((IntKind.wrap .i64 ((IntKind.wrap .i64 (y2.2.1*16777216))+(IntKind.wrap .i64 (y3.2.1*65536))))+(IntKind.wrap .i64 (y4.2.1*256))))+y5.2.1)) a1),()))) none) none) none) none))
def gA[eg] :=Db 47 Tryz.f47 (.st .cur) FH oI (λl x=>eF l x.1) [RM] [] (by kernel_rfl) λl x=>by simp only[eF,tm,-eq_self];kernel_rfl
abbrev Aj:LX:=⟨⟨[Ej,VG,tW],[],[.st .cur,.st .place],1,22⟩,[(.ext 0,⟨[VG],[],[.st .cur,.st .place],1,22⟩)],[],[0,3,4],[3]⟩
def rv[eg](s:Mg×Unit×List gE×List fB×Unit):Aj.R:=
 br (decide (s.1.2.2.1<5)) ((eF s.2.2.1 4).bind λy4=>iteP (y4.1.length=s.2.2.1.length) ((eF y4.1 4).bind λy5=>iteP (y5.1.length=y4.1.length) ((eF y5.1 4).bind λy6=>iteP (y6.1.length=y5.1.length) (iteP ((s.2.2.2.1++([(⟨y4.2.1,(IntKind.wrap .i64 (1+y5.2.1)),y6.2.1⟩:fB)]:List fB)).length*24<=2 ^ 40) (some (.inl (((),(),(IntKind.wrap .i64 (s.1.2.2.1+1)),()),(()),y6.1,(s.2.2.2.1++([(⟨y4.2.1,(IntKind.wrap .i64 (1+y5.2.1)),y6.2.1⟩:fB)]:List fB)),()))) none) none) none) none) (some (.inr (((),()),(()),s.2.2)))
def H5[eg] :=hO rv
def H6[eg] :=ky Tryz.f228 [0] Aj rv [gA] [] (by kernel_rfl) λs=>by simp only[rv,tm,-eq_self];kernel_rfl
def pO[eg](a0:List gE):Option ((List gE)×(List fB)×Unit):=
 (H5 (((),(),0,()),(()),a0,([]:List fB),())).bind λe7=>some e7.2.2
def Ep[eg] :=Db 228 Tryz.f228 (.st .cur) [] [.ls (.st .place)] (λl _=>pO l) [] [H6] (by kernel_rfl) λl x=>by simp only[pO,tm];kernel_rfl
def eL(a0:Int)(a1:Int)(a2:Int):Option (Bool×Unit):=
 br (decide (a0≥a1)) (some ((decide (a0<=a2)),())) (some (false,()))
def fO[eg] :=fw 57 Tryz.f57 Rp [.b] (λx=>eL x.1 x.2.1 x.2.2.1) [] [] (by kernel_rfl) λx=>by simp only[eL,tm];kernel_rfl
abbrev yw:LX:=⟨⟨[Ce,vx],[],[],0,38⟩,[(.ret,⟨[Ce,tE],[],[],0,38⟩),(.ext 0,⟨[Ce,ye],[],[],0,38⟩)],[],[0,3],[0,2]⟩
def kA(s: (List fB×Int×Unit)×Unit×Unit):yw.R:=
 br (decide (s.1.2.1< (s.1.1.length:Int))) (iteP (0<=s.1.2.1) ((s.1.1[s.1.2.1.toNat]?).bind λx3=>(eL x3.rack 0 9).bind λy4=>br (!y4.1) (some (.inr (.inl ((s.1.1,false,()),(()),(()))))) (iteP (0<=s.1.2.1) ((s.1.1[s.1.2.1.toNat]?).bind λx5=>(eL x5.capacity 0 9).bind λy6=>br (!y6.1) (some (.inr (.inl ((s.1.1,false,()),(()),(()))))) (iteP (0<=s.1.2.1) ((s.1.1[s.1.2.1.toNat]?).bind λx7=>(eL x7.load 0 99).bind λy8=>br (!y8.1) (some (.inr (.inl ((s.1.1,false,()),(()),(()))))) (some (.inl ((s.1.1,(IntKind.wrap .i64 (s.1.2.1+1)),()),(()),(()))))) none)) none)) none) (some (.inr (.inr ((s.1.1,(),()),(()),(())))))
def tX:=hO kA
def FK[eg] :=ky Tryz.f170 [0] yw kA [fO] [] (by kernel_rfl) λs=>by simp only[kA,tm];kernel_rfl
def fT(a0:List fB):Option (Bool×Unit):=
 (tX ((a0,0,()),(()),(()))).bind λe9=>Sum.elim (λe9_0=>some e9_0.1.2) (λe9_1=>some (((e9_1.1.1.length:Int)==5),())) e9
def qB[eg] :=fw 170 Tryz.f170 Rq [.b] (λx=>fT x.1) [] [FK] (by kernel_rfl) λx=>by simp only[fT,tm];kernel_rfl
def ox(a0:Int):Option (eu×Unit):=
 (eL a0 1 2).bind λy1=>br (!y1.1) (some ((⟨true,true,1,0,(⟨0,0,([]:List Int),([]:List Int)⟩:ey),0,([]:List eA),0,([]:List eA)⟩:eu),())) (some ((⟨true,true,a0,0,(⟨0,0,([]:List Int),([]:List Int)⟩:ey),0,([]:List eA),0,([]:List eA)⟩:eu),()))
def Ck[eg] :=fw 257 Tryz.f257 FH Ui (λx=>ox x.1) [fO] [] (by kernel_rfl) λx=>by simp only[ox,tm];kernel_rfl
abbrev wM:LX:=⟨⟨[ut,Cf,tW],[td,VP],VK,0,25⟩,[(.ext 0,⟨[ut,Cf],[td,VP],VK,0,25⟩)],[.b 1 1 (.st .server)],[2,3,4],[2,3]⟩
def oV(s:Mg×(ur×ur×Unit)×List eu×List Int×List fB×Unit):wM.R:=
 br (decide (s.1.2.2.1<5)) ((ox 1).bind λy34=>iteP ((s.2.2.1++([y34.1]:List eu)).length*152<=2 ^ 40) (some (.inl (((),(),(IntKind.wrap .i64 (s.1.2.2.1+1)),()),s.2.1,(s.2.2.1++([y34.1]:List eu)),s.2.2.2))) none) (some (.inr (((),(),()),s.2)))
def Er:=hO oV
def Es[eg] :=ky Tryz.f227 [0] wM oV [Ck] [] (by kernel_rfl) λs=>by simp only[oV,tm];kernel_rfl
def oW(a0:List fB):Option (eh×Unit):=
 (fT a0).bind λy1=>br (!y1.1) (some ((⟨0,([]:List eu),([]:List Int),(⟨([]:List ey),0⟩:eC),0,(⟨0,0,0⟩:fH),([]:List fB)⟩:eh),())) (iteP (0<=(5:Int)/\(5:Int)=5/\5*((8:Nat):Int)<=2 ^ 40) (iteP ((([]:List fB)++a0).length*24<=2 ^ 40) ((Er (((),(),0,()),((0,(),(),(),0,0,0,0,0,(),()),(0,(),(),(),0,3,0,0,0,(),()),()),([]:List eu),(List.replicate (5:Int).toNat (0:Int)),(([]:List fB)++a0),())).bind λe35=>some ((⟨e35.2.1.2.1.1,e35.2.2.1,e35.2.2.2.1,(⟨([]:List ey),e35.2.1.2.1.2.2.2.2.1⟩:eC),e35.2.1.2.1.2.2.2.2.2.1,(⟨e35.2.1.2.1.2.2.2.2.2.2.1,e35.2.1.2.1.2.2.2.2.2.2.2.1,e35.2.1.2.1.2.2.2.2.2.2.2.2.1⟩:fH),e35.2.2.2.2.1⟩:eh),())) none) none)
def H7[eg] :=fw 227 Tryz.f227 Rq Pc (λx=>oW x.1) [qB] [Es] (by kernel_rfl) λx=>by simp only[oW,tm,-eq_self];kernel_rfl
def gQ[eg](a0:List gE)(a1:Int):Option ((List gE)×Bool×Unit):=
 (eF a0 a1).bind λy1=>iteP (y1.1.length=a0.length) (some (y1.1,(y1.2.1==0),())) none
def lQ[eg] :=Db 104 Tryz.f104 (.st .cur) FH [.b] (λl x=>gQ l x.1) [gA] [] (by kernel_rfl) λl x=>by simp only[gQ,tm,-eq_self];kernel_rfl
def eT[eg](a0:List gE)(a1:List Int):Option ((List gE)×Int×Unit):=
 (eF a0 (a1.length:Int)).bind λy1=>iteP (y1.1.length=a0.length) (iteP (0<=y1.2.1) ((a1[y1.2.1.toNat]?).bind λx2=>some (y1.1,x2,())) none) none
def gT[eg] :=Db 48 Tryz.f48 (.st .cur) Md oI (λl x=>eT l x.1) [gA] [] (by kernel_rfl) λl x=>by simp only[eT,tm,-eq_self];kernel_rfl
def tY[eg](a0:List gE):Option ((List gE)×Op×Unit):=
 (eF a0 3).bind λy1=>iteP (y1.1.length=a0.length) ((eF y1.1 5).bind λy2=>iteP (y2.1.length=y1.1.length) ((eF y2.1 3).bind λy3=>iteP (y3.1.length=y2.1.length) ((eF y3.1 10).bind λy4=>iteP (y4.1.length=y3.1.length) ((gQ y4.1 3).bind λy5=>iteP (y5.1.length=y4.1.length) (br y5.2.1 ((eT y5.1 ([0,0,1,5,9]:List Int)).bind λy6=>iteP (y6.1.length=y5.1.length) (some (y6.1,(⟨y1.2.1,(IntKind.wrap .i64 (1+y2.2.1)),2,y3.2.1,y6.2.1,y4.2.1⟩:Op),())) none) (some (y5.1,(⟨y1.2.1,(IntKind.wrap .i64 (1+y2.2.1)),1,y3.2.1,0,y4.2.1⟩:Op),()))) none) none) none) none) none
def H8[eg] :=Db 216 Tryz.f216 (.st .cur) [] [.st .op] (λl _=>tY l) [gA,lQ,gT] [] (by kernel_rfl) λl x=>by simp only[tY,tm,-eq_self];kernel_rfl
def sq[eg](a0:List gE):Option ((List gE)×fS×Unit):=
 (eF a0 5).bind λy1=>iteP (y1.1.length=a0.length) ((eF y1.1 24).bind λy2=>iteP (y2.1.length=y1.1.length) (br (y2.2.1==0) ((eF y2.1 20).bind λy3=>iteP (y3.1.length=y2.1.length) (some (y3.1,(⟨3,y1.2.1,0,(IntKind.wrap .i64 (1+y3.2.1)),(⟨0,0,0,0,0,0⟩:Op)⟩:fS),())) none) (br (y2.2.1==1) ((eF y2.1 2).bind λy4=>iteP (y4.1.length=y2.1.length) ((eF y4.1 3).bind λy5=>iteP (y5.1.length=y4.1.length) (some (y5.1,(⟨4,0,y4.2.1,(IntKind.wrap .i64 (1+y5.2.1)),(⟨0,0,0,0,0,0⟩:Op)⟩:fS),())) none) none) (br (y2.2.1==2) (some (y2.1,(⟨5,0,0,0,(⟨0,0,0,0,0,0⟩:Op)⟩:fS),())) (br (y2.2.1==3) (some (y2.1,(⟨6,y1.2.1,0,0,(⟨0,0,0,0,0,0⟩:Op)⟩:fS),())) (let j23 (p6:Bool):Option ((List gE)×fS×Unit):=br p6 (some (y2.1,(⟨7,y1.2.1,0,0,(⟨0,0,0,0,0,0⟩:Op)⟩:fS),())) (br (y2.2.1==6) ((gQ y2.1 3).bind λy7=>iteP (y7.1.length=y2.1.length) (br y7.2.1 (some (y7.1,(⟨8,y1.2.1,0,0,(⟨0,0,0,0,0,0⟩:Op)⟩:fS),())) ((tY y7.1).bind λy26=>iteP (y26.1.length=y7.1.length) (some (y26.1,(⟨1,y1.2.1,0,0,y26.2.1⟩:fS),())) none)) none) (br (y2.2.1==7) ((eT y2.1 ([0,0,1]:List Int)).bind λy8=>iteP (y8.1.length=y2.1.length) (some (y8.1,(⟨9,y1.2.1,0,y8.2.1,(⟨0,0,0,0,0,0⟩:Op)⟩:fS),())) none) (br (y2.2.1==8) ((eF y2.1 3).bind λy9=>iteP (y9.1.length=y2.1.length) (some (y9.1,(⟨10,0,0,(IntKind.wrap .i64 (1+y9.2.1)),(⟨0,0,0,0,0,0⟩:Op)⟩:fS),())) none) (let j22 (p10:Bool):Option ((List gE)×fS×Unit):=br p10 ((eF y2.1 12).bind λy11=>iteP (y11.1.length=y2.1.length) (some (y11.1,(⟨11,0,0,y11.2.1,(⟨0,0,0,0,0,0⟩:Op)⟩:fS),())) none) (br (y2.2.1==11) ((eF y2.1 5).bind λy12=>iteP (y12.1.length=y2.1.length) ((eF y12.1 4).bind λy13=>iteP (y13.1.length=y12.1.length) (some (y13.1,(⟨12,y1.2.1,y12.2.1,(IntKind.wrap .i64 (1+y13.2.1)),(⟨0,0,0,0,0,0⟩:Op)⟩:fS),())) none) none) (br (y2.2.1==12) (some (y2.1,(⟨13,y1.2.1,0,0,(⟨0,0,0,0,0,0⟩:Op)⟩:fS),())) (br (y2.2.1==13) (some (y2.1,(⟨14,y1.2.1,0,0,(⟨0,0,0,0,0,0⟩:Op)⟩:fS),())) (br (y2.2.1==14) (some (y2.1,(⟨15,y1.2.1,0,0,(⟨0,0,0,0,0,0⟩:Op)⟩:fS),())) (let j21 (p14:Bool):Option ((List gE)×fS×Unit):=br p14 ((eF y2.1 3).bind λy15=>iteP (y15.1.length=y2.1.length) ((eF y15.1 20).bind λy16=>iteP (y16.1.length=y15.1.length) (some (y16.1,(⟨16,0,(IntKind.wrap .i64 (1+y15.2.1)),(IntKind.wrap .i64 (1+y16.2.1)),(⟨0,0,0,0,0,0⟩:Op)⟩:fS),())) none) none) (br (y2.2.1==17) ((eF y2.1 3).bind λy19=>iteP (y19.1.length=y2.1.length) (some (y19.1,(⟨2,y1.2.1,0,y19.2.1,(⟨0,0,0,0,0,0⟩:Op)⟩:fS),())) none) (br (y2.2.1==18) ((eF y2.1 3).bind λy20=>iteP (y20.1.length=y2.1.length) (some (y20.1,(⟨2,y1.2.1,0,y20.2.1,(⟨0,0,0,0,0,0⟩:Op)⟩:fS),())) none) ((tY y2.1).bind λy27=>iteP (y27.1.length=y2.1.length) (some (y27.1,(⟨1,y1.2.1,0,0,y27.2.1⟩:fS),())) none)));br (y2.2.1==15) (j21 true) (j21 (y2.2.1==16)))))));br (y2.2.1==9) (j22 true) (j22 (y2.2.1==10))))));br (y2.2.1==4) (j23 true) (j23 (y2.2.1==5))))))) none) none
def Mm[eg] :=Db 258 Tryz.f258 (.st .cur) [] [.st .event] (λl _=>sq l) [gA,lQ,gT,H8] [] (by kernel_rfl) λl x=>by simp only[sq,tm,-eq_self];kernel_rfl
abbrev yx:LX:=⟨⟨[Ej,VH,tF],[],[.st .cur,.st .event],1,48⟩,[(.ext 0,⟨[VH],[],[.st .cur,.st .event],1,48⟩)],[],[0,5,6],[5]⟩
def nz[eg](s:Mg×Unit×List gE×List fS×Unit):yx.R:=
 br (decide (s.1.2.2.1>0)) ((sq s.2.2.1).bind λy21=>iteP (y21.1.length=s.2.2.1.length) (br (y21.2.1.kind==1) ((gQ y21.1 3).bind λy22=>iteP (y22.1.length=y21.1.length) (br (!y22.2.1) ((eT y22.1 ([0,0,1]:List Int)).bind λy23=>iteP (y23.1.length=y22.1.length) (iteP ((s.2.2.2.1++([(⟨y21.2.1.kind,y23.2.1,y21.2.1.other,y21.2.1.n,y21.2.1.op⟩:fS)]:List fS)).length*80<=2 ^ 40) (some (.inl (((),(),(IntKind.wrap .i64 (s.1.2.2.1-1)),()),(()),y23.1,(s.2.2.2.1++([(⟨y21.2.1.kind,y23.2.1,y21.2.1.other,y21.2.1.n,y21.2.1.op⟩:fS)]:List fS)),()))) none) none) (iteP ((s.2.2.2.1++([y21.2.1]:List fS)).length*80<=2 ^ 40) (some (.inl (((),(),(IntKind.wrap .i64 (s.1.2.2.1-1)),()),(()),y22.1,(s.2.2.2.1++([y21.2.1]:List fS)),()))) none)) none) (iteP ((s.2.2.2.1++([y21.2.1]:List fS)).length*80<=2 ^ 40) (some (.inl (((),(),(IntKind.wrap .i64 (s.1.2.2.1-1)),()),(()),y21.1,(s.2.2.2.1++([y21.2.1]:List fS)),()))) none)) none) (some (.inr (((),()),(()),s.2.2)))
def qg[eg] :=hO nz
def FL[eg] :=ky Tryz.f229 [0] yx nz [lQ,Mm,gT] [] (by kernel_rfl) λs=>by simp only[nz,tm,-eq_self];kernel_rfl
def qC[eg](a0:List gE)(a1:Int):Option ((List gE)×(List fS)×Unit):=
 (eF a0 3).bind λy1=>iteP (y1.1.length=a0.length) ((eF y1.1 20).bind λy2=>iteP (y2.1.length=y1.1.length) ((gQ y2.1 2).bind λy3=>iteP (y3.1.length=y2.1.length) (br y3.2.1 ((eF y3.1 (IntKind.wrap .i64 (a1+1))).bind λy17=>iteP (y17.1.length=y3.1.length) ((qg (((),(),y17.2.1,()),(()),y17.1,([(⟨4,0,1,2,(⟨0,0,0,0,0,0⟩:Op)⟩:fS),(⟨5,0,0,0,(⟨0,0,0,0,0,0⟩:Op)⟩:fS)]:List fS),())).bind λe28=>some e28.2.2) none) ((eF y3.1 (IntKind.wrap .i64 (a1+1))).bind λy29=>iteP (y29.1.length=y3.1.length) ((qg (((),(),y29.2.1,()),(()),y29.1,([(⟨16,0,(IntKind.wrap .i64 (1+y1.2.1)),(IntKind.wrap .i64 (1+y2.2.1)),(⟨0,0,0,0,0,0⟩:Op)⟩:fS)]:List fS),())).bind λe40=>some e40.2.2) none)) none) none) none
def KE[eg] :=Db 229 Tryz.f229 (.st .cur) FH [.ls (.st .event)] (λl x=>qC l x.1) [gA,lQ] [FL] (by kernel_rfl) λl x=>by simp only[qC,tm,-eq_self];kernel_rfl
def kQ(a0:ey):Option (ey×Unit):=
 iteP ((([]:List Int)++a0.replicas).length*8<=2 ^ 40) (iteP ((([]:List Int)++a0.witnesses).length*8<=2 ^ 40) (some ((⟨a0.epoch,a0.primary,(([]:List Int)++a0.replicas),(([]:List Int)++a0.witnesses)⟩:ey),())) none) none
def wN[eg] :=fw 199 Tryz.f199 Me Uj (λx=>kQ x.1) [] [] (by kernel_rfl) λx=>by simp only[kQ,tm];kernel_rfl
def iZ(a0:List eA):Option ((List eA)×Unit):=
 iteP ((([]:List eA)++a0).length*56<=2 ^ 40) (some ((([]:List eA)++a0),())) none
def nA[eg] :=fw 103 Tryz.f103 Bn Pd (λx=>iZ x.1) [] [] (by kernel_rfl) λx=>by simp only[iZ,tm];kernel_rfl
def jX(a0:eu):Option (eu×Unit):=
 (kQ a0.config).bind λy1=>(iZ a0.log).bind λy2=>(iZ a0.learned).bind λy3=>some ((⟨a0.up,a0.intact,a0.version,a0.epoch,y1.1,a0.first,y2.1,a0.commit,y3.1⟩:eu),())
def Bo[eg] :=fw 165 Tryz.f165 Kq Ui (λx=>jX x.1) [wN,nA] [] (by kernel_rfl) λx=>by simp only[jX,tm];kernel_rfl
abbrev Cm:LX:=⟨⟨[od,uu,Kt,tW],[Mi,GO,N5],Up,0,29⟩,[(.ext 0,⟨[ut,Cf],[GO,N5],Up,0,29⟩)],[.b 2 0 (.st .config)],[1,2,3,4],[2,3]⟩
def oy(s:Um×(WT×Ei×Ei×Unit)×List ey×Unit):Cm.R:=
 br (decide (s.1.2.2.2.1< (s.2.1.1.1.length:Int))) (iteP (0<=s.1.2.2.2.1) ((s.2.1.1.1[s.1.2.2.2.1.toNat]?).bind λx14=>(kQ x14).bind λy15=>iteP ((s.2.2.1++([y15.1]:List ey)).length*64<=2 ^ 40) (some (.inl (((),(),(),(IntKind.wrap .i64 (s.1.2.2.2.1+1)),()),s.2.1,(s.2.2.1++([y15.1]:List ey)),()))) none) none) (some (.inr (((),(),()),s.2.1.2,s.2.2)))
def Cn:=hO oy
def KF[eg] :=ky Tryz.f166 [0] Cm oy [wN] [] (by kernel_rfl) λs=>by simp only[oy,tm];kernel_rfl
def pP(a0:eC):Option (eC×Unit):=
 (Cn (((),(),(),0,()),((a0.configs,a0.activated,()),((),0,()),((),a0.activated,()),()),([]:List ey),())).bind λe16=>some ((⟨e16.2.2.1,e16.2.1.2.1.2.1⟩:eC),())
def Bp[eg] :=fw 166 Tryz.f166 Pe Uk (λx=>pP x.1) [] [KF] (by kernel_rfl) λx=>by simp only[pP,tm];kernel_rfl
abbrev Cp:LX:=⟨⟨[od,uu,Kt,tW],[pH,td,N6],Uq,0,42⟩,[(.ext 0,⟨[od,uu,Kt],[pH,td,N6],Uq,0,42⟩)],[.b 2 1 (.st .server)],[1,2,3,4],[1,2,3]⟩
def oz(s:Um×(vw×ur×Vr×Unit)×List eu×Unit):Cp.R:=
 br (decide (s.1.2.2.2.1< (s.2.1.1.2.1.length:Int))) (iteP (0<=s.1.2.2.2.1) ((s.2.1.1.2.1[s.1.2.2.2.1.toNat]?).bind λx56=>(jX x56).bind λy57=>iteP ((s.2.2.1++([y57.1]:List eu)).length*152<=2 ^ 40) (some (.inl (((),(),(),(IntKind.wrap .i64 (s.1.2.2.2.1+1)),()),s.2.1,(s.2.2.1++([y57.1]:List eu)),()))) none) none) (some (.inr (((),(),(),()),s.2)))
def Cq:=hO oz
def KG[eg] :=ky Tryz.f55 [0] Cp oz [Bo] [] (by kernel_rfl) λs=>by simp only[oz,tm];kernel_rfl
def fA(a0:eh):Option (eh×Unit):=
 (Cq (((),(),(),0,()),((a0.now,a0.servers,a0.sides,a0.master.configs,a0.master.activated,a0.masterUp,a0.lease.epoch,a0.lease.holder,a0.lease.ends,a0.places,()),(0,(),(),(),0,0,0,0,0,(),()),(a0.now,(),a0.sides,a0.master.configs,a0.master.activated,a0.masterUp,a0.lease.epoch,a0.lease.holder,a0.lease.ends,a0.places,()),()),([]:List eu),())).bind λe58=>iteP ((([]:List Int)++e58.2.1.1.2.2.1).length*8<=2 ^ 40) ((pP (⟨e58.2.1.1.2.2.2.1,e58.2.1.1.2.2.2.2.1⟩:eC)).bind λy59=>iteP ((([]:List fB)++e58.2.1.1.2.2.2.2.2.2.2.2.2.1).length*24<=2 ^ 40) (some ((⟨e58.2.1.2.2.1.1,e58.2.2.1,(([]:List Int)++e58.2.1.1.2.2.1),y59.1,e58.2.1.2.2.1.2.2.2.2.2.1,(⟨e58.2.1.2.2.1.2.2.2.2.2.2.1,e58.2.1.2.2.1.2.2.2.2.2.2.2.1,e58.2.1.2.2.1.2.2.2.2.2.2.2.2.1⟩:fH),(([]:List fB)++e58.2.1.1.2.2.2.2.2.2.2.2.2.1)⟩:eh),())) none) none
def gl[eg] :=fw 55 Tryz.f55 FI Pc (λx=>fA x.1) [Bp] [KG] (by kernel_rfl) λx=>by simp only[fA,tm];kernel_rfl
abbrev Ak:LX:=⟨⟨[wk,vx],[],[],0,19⟩,[(.ret,⟨[wk,tE],[],[],0,19⟩),(.ext 0,⟨[wk,ye],[],[],0,19⟩)],[],[0,3],[0,2]⟩
def mZ(s:Vs×Unit×Unit):Ak.R:=
 br (decide (s.1.2.1< (s.1.1.length:Int))) (iteP (0<=s.1.2.1) ((s.1.1[s.1.2.1.toNat]?).bind λx3=>(eL x3 0 3).bind λy4=>br (!y4.1) (some (.inr (.inl ((s.1.1,false,()),(()),(()))))) (some (.inl ((s.1.1,(IntKind.wrap .i64 (s.1.2.1+1)),()),(()),(()))))) none) (some (.inr (.inr ((s.1.1,(),()),(()),(())))))
def vy:=hO mZ
def H9[eg] :=ky Tryz.f167 [0] Ak mZ [fO] [] (by kernel_rfl) λs=>by simp only[mZ,tm];kernel_rfl
def jH(a0:List Int):Option (Bool×Unit):=
 (vy ((a0,0,()),(()),(()))).bind λe5=>Sum.elim (λe5_0=>some e5_0.1.2) (λe5_1=>some (((e5_1.1.1.length:Int)==5),())) e5
def vz[eg] :=fw 167 Tryz.f167 Md [.b] (λx=>jH x.1) [] [H9] (by kernel_rfl) λx=>by simp only[jH,tm];kernel_rfl
abbrev wO:LX:=⟨⟨[wk,vx],[],[],0,32⟩,[(.ret,⟨[tE],[],[],0,32⟩),(.ext 0,⟨[ye],[],[],0,32⟩)],[],[0,3],[2]⟩
def it(s:Vs×Unit×Unit):wO.R:=
 br (decide (s.1.2.1< (s.1.1.length:Int))) (iteP (0<=s.1.2.1) ((s.1.1[s.1.2.1.toNat]?).bind λx3=>(eL x3 0 4).bind λy4=>br (!y4.1) (some (.inr (.inl ((false,()),(()),(()))))) (br (decide (s.1.2.1>0)) (iteP (0<=(IntKind.wrap .i64 (s.1.2.1-1))) ((s.1.1[(IntKind.wrap .i64 (s.1.2.1-1)).toNat]?).bind λx5=>iteP (0<=s.1.2.1) ((s.1.1[s.1.2.1.toNat]?).bind λx6=>br (decide (x5≥x6)) (some (.inr (.inl ((false,()),(()),(()))))) (some (.inl ((s.1.1,(IntKind.wrap .i64 (s.1.2.1+1)),()),(()),(()))))) none) none) (some (.inl ((s.1.1,(IntKind.wrap .i64 (s.1.2.1+1)),()),(()),(())))))) none) (some (.inr (.inr (((),()),(()),(())))))
def oX:=hO it
def Et[eg] :=ky Tryz.f191 [0] wO it [fO] [] (by kernel_rfl) λs=>by simp only[it,tm];kernel_rfl
def gK(a0:List Int):Option (Bool×Unit):=
 (oX ((a0,0,()),(()),(()))).bind λe7=>Sum.elim (λe7_0=>some e7_0.1) (λ_=>some (true,())) e7
def rx[eg] :=fw 191 Tryz.f191 Md [.b] (λx=>gK x.1) [] [Et] (by kernel_rfl) λx=>by simp only[gK,tm];kernel_rfl
abbrev yy:LX:=⟨⟨[wk,qX,so],[],[],0,18⟩,[(.ret,⟨[Ek],[],[],0,18⟩),(.ext 0,⟨[wK],[],[],0,18⟩)],[],[0,1,5],[4]⟩
def l6(s:Vt×Unit×Unit):yy.R:=
 br (decide (s.1.2.2.1< (s.1.1.length:Int))) (iteP (0<=s.1.2.2.1) ((s.1.1[s.1.2.2.1.toNat]?).bind λx4=>br (x4==s.1.2.1) (some (.inr (.inl ((true,()),(()),(()))))) (some (.inl ((s.1.1,s.1.2.1,(IntKind.wrap .i64 (s.1.2.2.1+1)),()),(()),(()))))) none) (some (.inr (.inr (((),()),(()),(())))))
def tZ:=hO l6
def FM[eg] :=ky Tryz.f86 [0] yy l6 [] [] (by kernel_rfl) λs=>by simp only[l6,tm];kernel_rfl
def fI(a0:List Int)(a1:Int):Option (Bool×Unit):=
 (tZ ((a0,a1,0,()),(()),(()))).bind λe5=>Sum.elim (λe5_0=>some e5_0.1) (λ_=>some (false,())) e5
def jr[eg] :=fw 86 Tryz.f86 Kr [.b] (λx=>fI x.1 x.2.1) [] [FM] (by kernel_rfl) λx=>by simp only[fI,tm];kernel_rfl
abbrev GR:LX:=⟨⟨[wk,qX,so],[],[],0,47⟩,[(.ext 0,⟨[wk,qX,so],[],[],0,47⟩)],[],[0,1,5],[0,1,5]⟩
def m0(s:Vt×Unit×Unit):GR.R:=
 br (decide (s.1.2.2.1< (s.1.1.length:Int))) (iteP (0<=s.1.2.2.1) ((s.1.1[s.1.2.2.1.toNat]?).bind λx4=>br (decide (x4<s.1.2.1)) (some (.inl ((s.1.1,s.1.2.1,(IntKind.wrap .i64 (s.1.2.2.1+1)),()),(()),(())))) (some (.inr (s.1,(()),(()))))) none) (some (.inr (s.1,(()),(()))))
def Bq:=hO m0
def Pg[eg] :=ky Tryz.f192 [0] GR m0 [] [] (by kernel_rfl) λs=>by simp only[m0,tm];kernel_rfl
def kM(a0:List Int)(a1:Int):Option ((List Int)×Unit):=
 (Bq ((a0,a1,0,()),(()),(()))).bind λe5=>let j7:Option ((List Int)×Unit):=iteP (0<=(0:Int)/\(0:Int)<=e5.1.2.2.1/\e5.1.2.2.1<=(e5.1.1.length:Int)) (iteP ((([]:List Int)++((e5.1.1.drop (0:Int).toNat).take (e5.1.2.2.1.toNat-(0:Int).toNat))).length*8<=2 ^ 40) (iteP (((([]:List Int)++((e5.1.1.drop (0:Int).toNat).take (e5.1.2.2.1.toNat-(0:Int).toNat)))++([e5.1.2.1]:List Int)).length*8<=2 ^ 40) (iteP (0<=e5.1.2.2.1/\e5.1.2.2.1<=(e5.1.1.length:Int)/\(e5.1.1.length:Int)<=(e5.1.1.length:Int)) (iteP ((((([]:List Int)++((e5.1.1.drop (0:Int).toNat).take (e5.1.2.2.1.toNat-(0:Int).toNat)))++([e5.1.2.1]:List Int))++((e5.1.1.drop e5.1.2.2.1.toNat).take ((e5.1.1.length:Int).toNat-e5.1.2.2.1.toNat))).length*8<=2 ^ 40) (some ((((([]:List Int)++((e5.1.1.drop (0:Int).toNat).take (e5.1.2.2.1.toNat-(0:Int).toNat)))++([e5.1.2.1]:List Int))++((e5.1.1.drop e5.1.2.2.1.toNat).take ((e5.1.1.length:Int).toNat-e5.1.2.2.1.toNat))),())) none) none) none) none) none;br (decide (e5.1.2.2.1< (e5.1.1.length:Int))) (iteP (0<=e5.1.2.2.1) ((e5.1.1[e5.1.2.2.1.toNat]?).bind λx6=>br (x6==e5.1.2.1) (iteP ((([]:List Int)++e5.1.1).length*8<=2 ^ 40) (some ((([]:List Int)++e5.1.1),())) none) (j7)) none) (j7)
def vA[eg] :=fw 192 Tryz.f192 Kr pG (λx=>kM x.1 x.2.1) [] [Pg] (by kernel_rfl) λx=>by simp only[kM,tm];kernel_rfl
abbrev tG:LX:=⟨⟨[wk,Ag,uv,tF],[],lq,0,27⟩,[(.ext 0,⟨[uv],[],lq,0,27⟩)],[],[0,1,5,6],[5]⟩
def i6(s:Ry×Unit×List Int×Unit):tG.R:=
 br (decide (s.1.2.2.2.1< (s.1.1.length:Int))) (iteP (0<=s.1.2.2.2.1) ((s.1.1[s.1.2.2.2.1.toNat]?).bind λx5=>(fI s.1.2.1 x5).bind λy6=>br y6.1 (iteP (0<=s.1.2.2.2.1) ((s.1.1[s.1.2.2.2.1.toNat]?).bind λx7=>(kM s.2.2.1 x7).bind λy8=>some (.inl ((s.1.1,s.1.2.1,(),(IntKind.wrap .i64 (s.1.2.2.2.1+1)),()),(()),y8.1,()))) none) (some (.inl ((s.1.1,s.1.2.1,(),(IntKind.wrap .i64 (s.1.2.2.2.1+1)),()),(()),s.2.2)))) none) (some (.inr (((),()),(()),s.2.2)))
def tH:=hO i6
def Al[eg] :=ky Tryz.f188 [0] tG i6 [jr,vA] [] (by kernel_rfl) λs=>by simp only[i6,tm];kernel_rfl
def ja(a0:List Int)(a1:List Int):Option ((List Int)×Unit):=
 (tH ((a0,a1,(),0,()),(()),([]:List Int),())).bind λe10=>some e10.2.2
def qY[eg] :=fw 188 Tryz.f188 HZ pG (λx=>ja x.1 x.2.1) [] [Al] (by kernel_rfl) λx=>by simp only[ja,tm];kernel_rfl
def eN(a0:ey):Option (Bool×Unit):=
 (eL a0.epoch 1 20).bind λy1=>br y1.1 ((gK a0.replicas).bind λy2=>br y2.1 ((gK a0.witnesses).bind λy3=>br y3.1 ((fI a0.replicas a0.primary).bind λy4=>br y4.1 ((ja a0.replicas a0.witnesses).bind λy5=>some (((y5.1.length:Int)==0),())) (some (false,()))) (some (false,()))) (some (false,()))) (some (false,()))
def nS[eg] :=fw 126 Tryz.f126 Me [.b] (λx=>eN x.1) [fO,rx,jr,qY] [] (by kernel_rfl) λx=>by simp only[eN,tm];kernel_rfl
abbrev vV:LX:=⟨⟨[od,vx],[Mi],[],0,35⟩,[(.ret,⟨[od,tE],[Mi],[],0,35⟩),(.ext 0,⟨[od,ye],[Mi],[],0,35⟩)],[],[1,3],[1,2]⟩
def fU(s:Ei×(WT×Unit)×Unit):vV.R:=
 br (decide (s.1.2.1< (s.2.1.1.1.length:Int))) (iteP (0<=s.1.2.1) ((s.2.1.1.1[s.1.2.1.toNat]?).bind λx4=>(eN x4).bind λy5=>br (!y5.1) (some (.inr (.inl (((),false,()),s.2.1,(()))))) (iteP (0<=s.1.2.1) ((s.2.1.1.1[s.1.2.1.toNat]?).bind λx6=>br (!(x6.epoch==(IntKind.wrap .i64 (s.1.2.1+1)))) (some (.inr (.inl (((),false,()),s.2.1,(()))))) (some (.inl (((),(IntKind.wrap .i64 (s.1.2.1+1)),()),s.2.1,(()))))) none)) none) (some (.inr (.inr (((),(),()),s.2.1,(())))))
def lR:=hO fU
def CK[eg] :=ky Tryz.f168 [0] vV fU [nS] [] (by kernel_rfl) λs=>by simp only[fU,tm];kernel_rfl
def fW(a0:eC):Option (Bool×Unit):=
 (lR (((),0,()),((a0.configs,a0.activated,()),()),(()))).bind λe7=>Sum.elim (λe7_0=>some e7_0.1.2) (λe7_1=>(eL e7_1.2.1.1.2.1 0 (e7_1.2.1.1.1.length:Int)).bind λy8=>some (y8.1,())) e7
def qh[eg] :=fw 168 Tryz.f168 Pe [.b] (λx=>fW x.1) [fO] [CK] (by kernel_rfl) λx=>by simp only[fW,tm];kernel_rfl
def kR(a0:fH):Option (Bool×Unit):=
 br ((a0.epoch==0)&&((a0.holder==0)&&((a0.ends==0)&&true))) (some (true,())) ((eL a0.epoch 1 20).bind λy1=>br y1.1 ((eL a0.holder 0 4).bind λy2=>br y2.1 ((eL a0.ends 1 1049).bind λy3=>some (y3.1,())) (some (false,()))) (some (false,())))
def uy[eg] :=fw 169 Tryz.f169 Rr [.b] (λx=>kR x.1) [fO] [] (by kernel_rfl) λx=>by simp only[kR,tm];kernel_rfl
def fJ(a0:Op):Option (Bool×Unit):=
 (eL a0.client 0 2).bind λy1=>br (!y1.1) (some (false,())) ((eL a0.seq 1 99).bind λy2=>br (!y2.1) (some (false,())) ((eL a0.object 0 2).bind λy3=>br (!y3.1) (some (false,())) ((eL a0.value 0 9).bind λy4=>br (!y4.1) (some (false,())) (br (a0.kind==1) (br (a0.old==0) (some (true,())) (br (a0.kind==2) ((eL a0.old 0 9).bind λy5=>some (y5.1,())) (some (false,())))) (br (a0.kind==2) ((eL a0.old 0 9).bind λy6=>some (y6.1,())) (some (false,())))))))
def qD[eg] :=fw 138 Tryz.f138 Ks [.b] (λx=>fJ x.1) [fO] [] (by kernel_rfl) λx=>by simp only[fJ,tm];kernel_rfl
abbrev GS:LX:=⟨⟨[wJ,vx],[],[],0,47⟩,[(.ret,⟨[wJ,tE],[],[],0,47⟩),(.ext 0,⟨[wJ,ye],[],[],0,47⟩)],[],[0,3],[0,2]⟩
def m8(s:Vu×Unit×Unit):GS.R:=
 br (decide (s.1.2.1< (s.1.1.length:Int))) (iteP (0<=s.1.2.1) ((s.1.1[s.1.2.1.toNat]?).bind λx3=>(eL x3.epoch 1 20).bind λy4=>br (!y4.1) (some (.inr (.inl ((s.1.1,false,()),(()),(()))))) (iteP (0<=s.1.2.1) ((s.1.1[s.1.2.1.toNat]?).bind λx5=>(fJ x5.op).bind λy6=>br (!y6.1) (some (.inr (.inl ((s.1.1,false,()),(()),(()))))) (br (decide (s.1.2.1>0)) (iteP (0<=(IntKind.wrap .i64 (s.1.2.1-1))) ((s.1.1[(IntKind.wrap .i64 (s.1.2.1-1)).toNat]?).bind λx7=>iteP (0<=s.1.2.1) ((s.1.1[s.1.2.1.toNat]?).bind λx8=>br (decide (x7.epoch>x8.epoch)) (some (.inr (.inl ((s.1.1,false,()),(()),(()))))) (some (.inl ((s.1.1,(IntKind.wrap .i64 (s.1.2.1+1)),()),(()),(()))))) none) none) (some (.inl ((s.1.1,(IntKind.wrap .i64 (s.1.2.1+1)),()),(()),(())))))) none)) none) (some (.inr (.inr ((s.1.1,(),()),(()),(())))))
def uz:=hO m8
def Ph[eg] :=ky Tryz.f213 [0] GS m8 [fO,qD] [] (by kernel_rfl) λs=>by simp only[m8,tm];kernel_rfl
def hU(a0:List eA):Option (Bool×Unit):=
 (uz ((a0,0,()),(()),(()))).bind λe9=>Sum.elim (λe9_0=>some e9_0.1.2) (λe9_1=>some ((decide ((e9_1.1.1.length:Int)<=16)),())) e9
def ry[eg] :=fw 213 Tryz.f213 Bn [.b] (λx=>hU x.1) [] [Ph] (by kernel_rfl) λx=>by simp only[hU,tm];kernel_rfl
abbrev uA:LX:=⟨⟨[wk,Ag,so],[],[],0,26⟩,[(.ret,⟨[Ek],[],[],0,26⟩),(.ext 0,⟨[wK],[],[],0,26⟩)],[],[0,1,5],[4]⟩
def jw(s: (List Int×List Int×Int×Unit)×Unit×Unit):uA.R:=
 br (decide (s.1.2.2.1< (s.1.1.length:Int))) (iteP (0<=s.1.2.2.1) ((s.1.1[s.1.2.2.1.toNat]?).bind λx4=>iteP (0<=s.1.2.2.1) ((s.1.2.1[s.1.2.2.1.toNat]?).bind λx5=>br (!(x4==x5)) (some (.inr (.inl ((false,()),(()),(()))))) (some (.inl ((s.1.1,s.1.2.1,(IntKind.wrap .i64 (s.1.2.2.1+1)),()),(()),(()))))) none) none) (some (.inr (.inr (((),()),(()),(())))))
def pQ:=hO jw
def Br[eg] :=ky Tryz.f238 [0] uA jw [] [] (by kernel_rfl) λs=>by simp only[jw,tm];kernel_rfl
def kS(a0:List Int)(a1:List Int):Option (Bool×Unit):=
 br (!((a0.length:Int)==(a1.length:Int))) (some (false,())) ((pQ ((a0,a1,0,()),(()),(()))).bind λe6=>Sum.elim (λe6_0=>some e6_0.1) (λ_=>some (true,())) e6)
def Eu[eg] :=fw 238 Tryz.f238 HZ [.b] (λx=>kS x.1 x.2.1) [] [Br] (by kernel_rfl) λx=>by simp only[kS,tm];kernel_rfl
def iu(a0:ey)(a1:ey):Option (Bool×Unit):=
 br (a0.epoch==a1.epoch) (br (a0.primary==a1.primary) ((kS a0.replicas a1.replicas).bind λy1=>br y1.1 ((kS a0.witnesses a1.witnesses).bind λy2=>some (y2.1,())) (some (false,()))) (some (false,()))) (some (false,()))
def oY[eg] :=fw 173 Tryz.f173 Vh [.b] (λx=>iu x.1 x.2.1) [Eu] [] (by kernel_rfl) λx=>by simp only[iu,tm];kernel_rfl
def l7(a0:ey):Option (Bool×Unit):=
 (iu a0 (⟨0,0,([]:List Int),([]:List Int)⟩:ey)).bind λy1=>some (y1.1,())
def xS[eg] :=fw 88 Tryz.f88 Me [.b] (λx=>l7 x.1) [oY] [] (by kernel_rfl) λx=>by simp only[l7,tm];kernel_rfl
def oA(a0:List eA):Option (Int×Unit):=
 br ((a0.length:Int)==0) (some (0,())) (iteP (0<=(IntKind.wrap .i64 ((a0.length:Int)-1))) ((a0[(IntKind.wrap .i64 ((a0.length:Int)-1)).toNat]?).bind λx1=>some (x1.epoch,())) none)
def Bs[eg] :=fw 172 Tryz.f172 Bn oI (λx=>oA x.1) [] [] (by kernel_rfl) λx=>by simp only[oA,tm];kernel_rfl
def lS(a0:ey)(a1:Int):Option (Int×Unit):=
 (eN a0).bind λy1=>br (!y1.1) (some (0,())) (br (a1==a0.primary) (some (1,())) ((fI a0.replicas a1).bind λy2=>br y2.1 (some (2,())) ((fI a0.witnesses a1).bind λy3=>br y3.1 (some (3,())) (some (0,())))))
def uB[eg] :=fw 128 Tryz.f128 Vi oI (λx=>lS x.1 x.2.1) [nS,jr] [] (by kernel_rfl) λx=>by simp only[lS,tm];kernel_rfl
def fC(a0:eu)(a1:Int):Option (Bool×Unit):=
 (eL a0.version 1 2).bind λy1=>br (!y1.1) (some (false,())) ((eL a0.epoch 0 20).bind λy2=>br (!y2.1) (some (false,())) ((hU a0.log).bind λy3=>br (!y3.1) (some (false,())) ((hU a0.learned).bind λy4=>br (!y4.1) (some (false,())) ((eL a0.first 0 16).bind λy5=>br (!y5.1) (some (false,())) ((eL (IntKind.wrap .i64 (a0.first+(a0.log.length:Int))) 0 16).bind λy6=>br (!y6.1) (some (false,())) ((eL a0.commit 0 (IntKind.wrap .i64 (a0.first+(a0.log.length:Int)))).bind λy7=>br (!y7.1) (some (false,())) ((l7 a0.config).bind λy8=>br y8.1 (br (a0.first==0) (br ((a0.log.length:Int)==0) (some ((a0.commit==0),())) (some (false,()))) (some (false,()))) (br (!a0.intact) (some (false,())) (br (decide (a0.epoch<a0.config.epoch)) (some (false,())) ((oA a0.log).bind λy9=>br (decide (y9.1>a0.config.epoch)) (some (false,())) ((lS a0.config a1).bind λy10=>br (y10.1==0) (some (false,())) (br (y10.1==3) (br (decide ((a0.log.length:Int)<=3)) (br ((a0.log.length:Int)==3) (some (true,())) (some ((a0.first==0),()))) (some (false,()))) (some ((a0.first==0),()))))))))))))))
def vW[eg] :=fw 171 Tryz.f171 Mf [.b] (λx=>fC x.1 x.2.1) [fO,ry,xS,Bs,uB] [] (by kernel_rfl) λx=>by simp only[fC,tm];kernel_rfl
def jI(a0:eC)(a1:Int):Option (ey×Bool×Unit):=
 (fW a0).bind λy1=>br (!y1.1) (some ((⟨0,0,([]:List Int),([]:List Int)⟩:ey),false,())) ((eL a1 1 (a0.configs.length:Int)).bind λy2=>br (!y2.1) (some ((⟨0,0,([]:List Int),([]:List Int)⟩:ey),false,())) (iteP (0<=(IntKind.wrap .i64 (a1-1))) ((a0.configs[(IntKind.wrap .i64 (a1-1)).toNat]?).bind λx3=>(kQ x3).bind λy4=>some (y4.1,true,())) none))
def zu[eg] :=fw 101 Tryz.f101 Rs Rm (λx=>jI x.1 x.2.1) [qh,fO,wN] [] (by kernel_rfl) λx=>by simp only[jI,tm];kernel_rfl
abbrev sr:LX:=⟨⟨[od,vx],[pH],[],0,123⟩,[(.ret,⟨[tE],[],[],0,123⟩),(.ext 0,⟨[ye],[],[],0,123⟩)],[],[1,3],[2]⟩
def fh(s:Ei×(vw×Unit)×Unit):sr.R:=
 br (decide (s.1.2.1< (s.2.1.1.2.1.length:Int))) (iteP (0<=s.1.2.1) ((s.2.1.1.2.1[s.1.2.1.toNat]?).bind λx18=>(fC x18 s.1.2.1).bind λy19=>br (!y19.1) (some (.inr (.inl ((false,()),(()),(()))))) (br (decide (x18.epoch>(s.2.1.1.2.2.2.1.length:Int))) (some (.inr (.inl ((false,()),(()),(()))))) ((oA x18.learned).bind λy20=>br (decide (y20.1>s.2.1.1.2.2.2.2.1)) (some (.inr (.inl ((false,()),(()),(()))))) ((jI (⟨s.2.1.1.2.2.2.1,s.2.1.1.2.2.2.2.1⟩:eC) x18.config.epoch).bind λy21=>(l7 x18.config).bind λy22=>br (!y22.1) (br (!y21.2.1) (some (.inr (.inl ((false,()),(()),(()))))) ((iu y21.1 x18.config).bind λy23=>br (!y23.1) (some (.inr (.inl ((false,()),(()),(()))))) (br (decide (x18.config.epoch>s.2.1.1.2.2.2.2.1)) (some (.inr (.inl ((false,()),(()),(()))))) (some (.inl (((),(IntKind.wrap .i64 (s.1.2.1+1)),()),s.2.1,(()))))))) (some (.inl (((),(IntKind.wrap .i64 (s.1.2.1+1)),()),s.2.1,(())))))))) none) (some (.inr (.inr (((),()),(()),(())))))
def lC:=hO fh
def zw[eg] :=ky Tryz.f56 [0] sr fh [vW,Bs,zu,xS,oY] [] (by kernel_rfl) λs=>by simp only[fh,tm];kernel_rfl
def ew(a0:eh):Option (Bool×Unit):=
 (eL a0.now 0 999).bind λy1=>br (!y1.1) (some (false,())) (br (!((a0.servers.length:Int)==5)) (some (false,())) ((jH a0.sides).bind λy2=>br (!y2.1) (some (false,())) ((fW a0.master).bind λy3=>br (!y3.1) (some (false,())) ((eL a0.masterUp 0 3).bind λy4=>br (!y4.1) (some (false,())) ((kR a0.lease).bind λy5=>br (!y5.1) (some (false,())) ((fT a0.places).bind λy6=>br (!y6.1) (some (false,())) (br (decide (a0.lease.epoch>a0.master.activated)) (some (false,())) ((lC (((),0,()),((a0.now,a0.servers,a0.sides,a0.master.configs,a0.master.activated,a0.masterUp,a0.lease.epoch,a0.lease.holder,a0.lease.ends,a0.places,()),()),(()))).bind λe24=>Sum.elim (λe24_0=>some e24_0.1) (λ_=>some (true,())) e24))))))))
def eM[eg] :=fw 56 Tryz.f56 FI [.b] (λx=>ew x.1) [fO,vz,qh,uy,qB] [zw] (by kernel_rfl) λx=>by simp only[ew,tm];kernel_rfl
def uC(a0:Int):Option (Bool×Bool×Bool×Unit):=
 br (a0==1) (some (true,false,false,())) (let j5 (p1:Bool):Option (Bool×Bool×Bool×Unit):=br p1 (some (true,false,false,())) (let j4 (p2:Bool):Option (Bool×Bool×Bool×Unit):=br p2 (some (true,false,true,())) (br (a0==4) (some (false,true,true,())) (br (a0==10) (some (false,false,true,())) (br (a0==11) (some (false,false,true,())) (br (a0==12) (some (true,true,true,())) (br (a0==16) (some (false,true,true,())) (some (false,false,false,())))))));br (a0==2) (j4 true) (br (a0==3) (j4 true) (j4 (a0==9))));br (a0==6) (j5 true) (br (a0==7) (j5 true) (br (a0==8) (j5 true) (br (a0==13) (j5 true) (br (a0==14) (j5 true) (j5 (a0==15)))))))
def Pi[eg] :=fw 287 Tryz.f287 FH [.b,.b,.b] (λx=>uC x.1) [] [] (by kernel_rfl) λx=>by simp only[uC,tm];kernel_rfl
def mE(a0:fS):Option (Bool×Unit):=
 (eL a0.kind 1 16).bind λy1=>br (!y1.1) (some (false,())) ((eL a0.server 0 4).bind λy2=>br (!y2.1) (some (false,())) ((eL a0.other 0 4).bind λy3=>br (!y3.1) (some (false,())) ((eL a0.n 0 999).bind λy4=>br (!y4.1) (some (false,())) ((uC a0.kind).bind λy5=>let j7:Option (Bool×Unit):=br (a0.kind==1) ((fJ a0.op).bind λy6=>some (y6.1,())) (some (((a0.op.client==0)&&((a0.op.seq==0)&&((a0.op.kind==0)&&((a0.op.object==0)&&((a0.op.old==0)&&((a0.op.value==0)&&true)))))),()));br (!y5.1) (br (!(a0.server==0)) (some (false,())) (br (!y5.2.1) (br (!(a0.other==0)) (some (false,())) (br (!y5.2.2.1) (br (!(a0.n==0)) (some (false,())) (j7)) (j7))) (br (!y5.2.2.1) (br (!(a0.n==0)) (some (false,())) (j7)) (j7)))) (br (!y5.2.1) (br (!(a0.other==0)) (some (false,())) (br (!y5.2.2.1) (br (!(a0.n==0)) (some (false,())) (j7)) (j7))) (br (!y5.2.2.1) (br (!(a0.n==0)) (some (false,())) (j7)) (j7)))))))
def Ew[eg] :=fw 270 Tryz.f270 [.ty (.st .event)] [.b] (λx=>mE x.1) [fO,Pi,qD] [] (by kernel_rfl) λx=>by simp only[mE,tm];kernel_rfl
def gb(a0:eu)(a1:Int):Option (Bool×Unit):=
 (fC a0 a1).bind λy1=>br y1.1 (br a0.up ((lS a0.config a1).bind λy2=>br (y2.1==1) (some ((a0.epoch==a0.config.epoch),())) (some (false,()))) (some (false,()))) (some (false,()))
def kT[eg] :=fw 72 Tryz.f72 Mf [.b] (λx=>gb x.1 x.2.1) [vW,uB] [] (by kernel_rfl) λx=>by simp only[gb,tm];kernel_rfl
abbrev Ey:LX:=⟨⟨[wJ,qX,Ah,yf],[],[],0,33⟩,[(.ret,⟨[tF],[],[],0,33⟩),(.ext 0,⟨[RB],[],[],0,33⟩)],[],[0,1,2,7],[6]⟩
def kB(s: (List eA×Int×Int×Int×Unit)×Unit×Unit):Ey.R:=
 br (decide (s.1.2.2.2.1< (s.1.1.length:Int))) (iteP (0<=s.1.2.2.2.1) ((s.1.1[s.1.2.2.2.1.toNat]?).bind λx5=>br (x5.op.client==s.1.2.1) (iteP (0<=s.1.2.2.2.1) ((s.1.1[s.1.2.2.2.1.toNat]?).bind λx6=>br (x6.op.seq==s.1.2.2.1) (some (.inr (.inl (s.1.2.2.2,(()),(()))))) (some (.inl ((s.1.1,s.1.2.1,s.1.2.2.1,(IntKind.wrap .i64 (s.1.2.2.2.1+1)),()),(()),(()))))) none) (some (.inl ((s.1.1,s.1.2.1,s.1.2.2.1,(IntKind.wrap .i64 (s.1.2.2.2.1+1)),()),(()),(()))))) none) (some (.inr (.inr (((),()),(()),(())))))
def zx:=hO kB
def Mn[eg] :=ky Tryz.f139 [0] Ey kB [] [] (by kernel_rfl) λs=>by simp only[kB,tm];kernel_rfl
def jJ(a0:List eA)(a1:Int)(a2:Int):Option (Int×Unit):=
 (zx ((a0,a1,a2,0,()),(()),(()))).bind λe7=>Sum.elim (λe7_0=>some e7_0.1) (λ_=>some ((-1),())) e7
def KH[eg] :=fw 139 Tryz.f139 Rt oI (λx=>jJ x.1 x.2.1 x.2.2.1) [] [Mn] (by kernel_rfl) λx=>by simp only[jJ,tm];kernel_rfl
def oZ:Option (eK×Unit):=
 some ((⟨([0,0,0]:List Int),([]:List en)⟩:eK),())
def Ia[eg] :=fw 222 Tryz.f222 [] Ul (λ_=>oZ) [] [] (by kernel_rfl) λx=>by simp only[oZ,tm];kernel_rfl
def sx(a0:eK):Option (eK×Unit):=
 iteP ((([]:List Int)++a0.objects).length*8<=2 ^ 40) (iteP ((([]:List en)++a0.sessions).length*32<=2 ^ 40) (some ((⟨(([]:List Int)++a0.objects),(([]:List en)++a0.sessions)⟩:eK),())) none) none
def RN[eg] :=fw 223 Tryz.f223 NU Ul (λx=>sx x.1) [] [] (by kernel_rfl) λx=>by simp only[sx,tm];kernel_rfl
abbrev sy:LX:=⟨⟨[od,vx],[Ky],[],0,69⟩,[(.ret,⟨[od,tE],[Ky],[],0,69⟩),(.ext 0,⟨[od,ye],[Ky],[],0,69⟩)],[],[1,3],[1,2]⟩
def ic(s:Ei×(Un×Unit)×Unit):sy.R:=
 br (decide (s.1.2.1< (s.2.1.1.1.length:Int))) (iteP (0<=s.1.2.1) ((s.2.1.1.1[s.1.2.1.toNat]?).bind λx4=>(eL x4 0 9).bind λy5=>br (!y5.1) (some (.inr (.inl (((),false,()),s.2.1,(()))))) (some (.inl (((),(IntKind.wrap .i64 (s.1.2.1+1)),()),s.2.1,(()))))) none) (some (.inr (.inr (((),(),()),s.2.1,(())))))
def oe:=hO ic
def zy[eg] :=ky Tryz.f224 [0] sy ic [fO] [] (by kernel_rfl) λs=>by simp only[ic,tm];kernel_rfl
abbrev sA:LX:=⟨⟨[od,tW],[Ky],[],0,69⟩,[(.ret,⟨[od,tE],[Ky],[],0,69⟩),(.ext 2,⟨[od,ye],[Ky],[],0,69⟩)],[],[1,4],[1,2]⟩
def ig(s:Ei×(Un×Unit)×Unit):sA.R:=
 br (decide (s.1.2.1< (s.2.1.1.2.1.length:Int))) (iteP (0<=s.1.2.1) ((s.2.1.1.2.1[s.1.2.1.toNat]?).bind λx10=>(eL x10.client 0 2).bind λy11=>br (!y11.1) (some (.inr (.inl (((),false,()),s.2.1,(()))))) ((eL x10.seq 1 99).bind λy12=>br (!y12.1) (some (.inr (.inl (((),false,()),s.2.1,(()))))) ((eL x10.result.value 0 9).bind λy13=>br (!y13.1) (some (.inr (.inl (((),false,()),s.2.1,(()))))) (br (decide (s.1.2.1>0)) (iteP (0<=(IntKind.wrap .i64 (s.1.2.1-1))) ((s.2.1.1.2.1[(IntKind.wrap .i64 (s.1.2.1-1)).toNat]?).bind λx14=>br (decide (x14.client≥x10.client)) (some (.inr (.inl (((),false,()),s.2.1,(()))))) (some (.inl (((),(IntKind.wrap .i64 (s.1.2.1+1)),()),s.2.1,(()))))) none) (some (.inl (((),(IntKind.wrap .i64 (s.1.2.1+1)),()),s.2.1,(())))))))) none) (some (.inr (.inr (((),(),()),s.2.1,(())))))
def lD:=hO ig
def zz[eg] :=ky Tryz.f224 [1] sA ig [fO] [] (by kernel_rfl) λs=>by simp only[ig,tm];kernel_rfl
def ik(a0:eK):Option (Bool×Unit):=
 (oe (((),0,()),((a0.objects,a0.sessions,()),()),(()))).bind λe6=>Sum.elim (λe6_0=>some e6_0.1.2) (λe6_1=>(lD (((),0,()),e6_1.2.1,(()))).bind λe15=>Sum.elim (λe15_0=>some e15_0.1.2) (λe15_1=>some (((e15_1.2.1.1.1.length:Int)==3),())) e15) e6
def uD[eg] :=fw 224 Tryz.f224 NU [.b] (λx=>ik x.1) [] [zy,zz] (by kernel_rfl) λx=>by simp only[ik,tm];kernel_rfl
abbrev yz:LX:=⟨⟨[qX,ut,yt,tF],[Ky,GP],[],0,28⟩,[(.ret,⟨[uw,(5,.cl (.bl))],[GP],[],0,28⟩),(.ext 0,⟨[uw,RC],[GP],[],0,28⟩)],[],[1,2,4,6],[4,5]⟩
def il(s: (Int×Unit×Unit×Int×Unit)×(Un×Vv×Unit)×Unit):yz.R:=
 br (decide (s.1.2.2.2.1< (s.2.1.1.2.1.length:Int))) (iteP (0<=s.1.2.2.2.1) ((s.2.1.1.2.1[s.1.2.2.2.1.toNat]?).bind λx9=>br (x9.client==s.1.1) (iteP (0<=s.1.2.2.2.1) ((s.2.1.1.2.1[s.1.2.2.2.1.toNat]?).bind λx10=>some (.inr (.inl (((),true,()),((x10.client,x10.seq,x10.result.done,x10.result.value,()),()),(()))))) none) (some (.inl ((s.1.1,(),(),(IntKind.wrap .i64 (s.1.2.2.2.1+1)),()),s.2.1,(()))))) none) (some (.inr (.inr (((),(),()),s.2.1.2,(())))))
def qi:=hO il
def FN[eg] :=ky Tryz.f225 [0] yz il [] [] (by kernel_rfl) λs=>by simp only[il,tm];kernel_rfl
def js(a0:eK)(a1:Int):Option (en×Bool×Unit):=
 (qi ((a1,(),(),0,()),((a0.objects,a0.sessions,()),(0,0,false,0,()),()),(()))).bind λe11=>Sum.elim (λe11_0=>some ((⟨e11_0.2.1.1.1,e11_0.2.1.1.2.1,(⟨e11_0.2.1.1.2.2.1,e11_0.2.1.1.2.2.2.1⟩:Result)⟩:en),e11_0.1.2)) (λ_=>some ((⟨0,0,(⟨false,0⟩:Result)⟩:en),false,())) e11
def KI[eg] :=fw 225 Tryz.f225 Ru [.st .session,.b] (λx=>js x.1 x.2.1) [] [FN] (by kernel_rfl) λx=>by simp only[js,tm];kernel_rfl
abbrev Am:LX:=⟨⟨[Ai,yt,NW,Ku,Cg,NX,vT],[N7,Kz,KA,KB,KA],Kx,0,127⟩,[(.ext 0,⟨[Ai,yt,NW,Ku,Cg,NX,vT],[N7,Kz,KA,KB,KA],Kx,0,127⟩)],[],[3,4,5,7,9,11,12],[3,4,5,7,9,11,12]⟩
def m9(s:Vw×(Vx×H0×Uo×H0×Uo×Unit)×List Int×List en×Unit):Am.R:=
 br (decide (s.1.2.2.2.2.2.2.1< (s.2.2.2.1.length:Int))) (iteP (0<=s.1.2.2.2.2.2.2.1/\s.1.2.2.2.2.2.2.1< (s.2.2.2.1.length:Int)) ((s.2.2.2.1[s.1.2.2.2.2.2.2.1.toNat]?).bind λx22=>br (decide (x22.client<s.2.1.1.1)) (some (.inl (((),(),(),(),s.1.2.2.2.2.1,(),(IntKind.wrap .i64 (s.1.2.2.2.2.2.2.1+1)),()),s.2))) (some (.inr s))) none) (some (.inr s))
def rz:=hO m9
def Ib[eg] :=ky Tryz.f141 [0] Am m9 [] [] (by kernel_rfl) λs=>by simp only[m9,tm];kernel_rfl
def na(a0:eK)(a1:Op):Option (eK×Result×Bool×Unit):=
 (sx a0).bind λy1=>(ik a0).bind λy2=>br (!y2.1) (some (y1.1,(⟨false,0⟩:Result),false,())) ((fJ a1).bind λy3=>br (!y3.1) (some (y1.1,(⟨false,0⟩:Result),false,())) ((js a0 a1.client).bind λy4=>let j45:Option (eK×Result×Bool×Unit):=let j44:Option (eK×Result×Bool×Unit):=iteP (0<=a1.object) ((a0.objects[a1.object.toNat]?).bind λx5=>br (a1.kind==1) (iteP (0<=a1.object/\a1.object< (y1.1.objects.length:Int)) ((y1.1.objects[a1.object.toNat]?).bind λ_=>(rz (((),(),(),(),y4.2.1,(),0,()),((a1.client,a1.seq,a1.kind,a1.object,a1.old,a1.value,()),((),(),()),(false,0,()),((),(),()),(true,x5,()),()),(y1.1.objects.set a1.object.toNat a1.value),y1.1.sessions,())).bind λe23=>iteP (0<=e23.1.2.2.2.2.2.2.1/\e23.1.2.2.2.2.2.2.1<=(e23.2.2.2.1.length:Int)/\(e23.2.2.2.1.length:Int)<=((e23.2.2.2.1.length:Nat):Int)) (br e23.1.2.2.2.2.1 (iteP (0<=(IntKind.wrap .i64 (e23.1.2.2.2.2.2.2.1+1))/\(IntKind.wrap .i64 (e23.1.2.2.2.2.2.2.1+1))<=(e23.2.2.2.1.length:Int)/\(e23.2.2.2.1.length:Int)<=((e23.2.2.2.1.length:Nat):Int)) (iteP (0<=(0:Int)/\(0:Int)<=e23.1.2.2.2.2.2.2.1/\e23.1.2.2.2.2.2.2.1<=((e23.2.2.2.1.length:Nat):Int)) (iteP ((0+(0:Int).toNat)+(e23.1.2.2.2.2.2.2.1.toNat-(0:Int).toNat)<=e23.2.2.2.1.length) (iteP ((([]:List en)++((e23.2.2.2.1.drop (0+(0:Int).toNat)).take (e23.1.2.2.2.2.2.2.1.toNat-(0:Int).toNat))).length*32<=2 ^ 40) (iteP (((([]:List en)++((e23.2.2.2.1.drop (0+(0:Int).toNat)).take (e23.1.2.2.2.2.2.2.1.toNat-(0:Int).toNat)))++([(⟨e23.2.1.1.1,e23.2.1.1.2.1,(⟨e23.2.1.2.2.2.2.1.1,e23.2.1.2.2.2.2.1.2.1⟩:Result)⟩:en)]:List en)).length*32<=2 ^ 40) (iteP ((0+(IntKind.wrap .i64 (e23.1.2.2.2.2.2.2.1+1)).toNat)+((e23.2.2.2.1.length:Int).toNat-(IntKind.wrap .i64 (e23.1.2.2.2.2.2.2.1+1)).toNat)<=e23.2.2.2.1.length) (iteP ((((([]:List en)++((e23.2.2.2.1.drop (0+(0:Int).toNat)).take (e23.1.2.2.2.2.2.2.1.toNat-(0:Int).toNat)))++([(⟨e23.2.1.1.1,e23.2.1.1.2.1,(⟨e23.2.1.2.2.2.2.1.1,e23.2.1.2.2.2.2.1.2.1⟩:Result)⟩:en)]:List en))++((e23.2.2.2.1.drop (0+(IntKind.wrap .i64 (e23.1.2.2.2.2.2.2.1+1)).toNat)).take ((e23.2.2.2.1.length:Int).toNat-(IntKind.wrap .i64 (e23.1.2.2.2.2.2.2.1+1)).toNat))).length*32<=2 ^ 40) (some ((⟨e23.2.2.1,(((([]:List en)++((e23.2.2.2.1.drop (0+(0:Int).toNat)).take (e23.1.2.2.2.2.2.2.1.toNat-(0:Int).toNat)))++([(⟨e23.2.1.1.1,e23.2.1.1.2.1,(⟨e23.2.1.2.2.2.2.1.1,e23.2.1.2.2.2.2.1.2.1⟩:Result)⟩:en)]:List en))++((e23.2.2.2.1.drop (0+(IntKind.wrap .i64 (e23.1.2.2.2.2.2.2.1+1)).toNat)).take ((e23.2.2.2.1.length:Int).toNat-(IntKind.wrap .i64 (e23.1.2.2.2.2.2.2.1+1)).toNat)))⟩:eK),(⟨e23.2.1.2.2.2.2.1.1,e23.2.1.2.2.2.2.1.2.1⟩:Result),true,())) none) none) none) none) none) none) none) (iteP (0<=(0:Int)/\(0:Int)<=e23.1.2.2.2.2.2.2.1/\e23.1.2.2.2.2.2.2.1<=((e23.2.2.2.1.length:Nat):Int)) (iteP ((0+(0:Int).toNat)+(e23.1.2.2.2.2.2.2.1.toNat-(0:Int).toNat)<=e23.2.2.2.1.length) (iteP ((([]:List en)++((e23.2.2.2.1.drop (0+(0:Int).toNat)).take (e23.1.2.2.2.2.2.2.1.toNat-(0:Int).toNat))).length*32<=2 ^ 40) (iteP (((([]:List en)++((e23.2.2.2.1.drop (0+(0:Int).toNat)).take (e23.1.2.2.2.2.2.2.1.toNat-(0:Int).toNat)))++([(⟨e23.2.1.1.1,e23.2.1.1.2.1,(⟨e23.2.1.2.2.2.2.1.1,e23.2.1.2.2.2.2.1.2.1⟩:Result)⟩:en)]:List en)).length*32<=2 ^ 40) (iteP ((0+e23.1.2.2.2.2.2.2.1.toNat)+((e23.2.2.2.1.length:Int).toNat-e23.1.2.2.2.2.2.2.1.toNat)<=e23.2.2.2.1.length) (iteP ((((([]:List en)++((e23.2.2.2.1.drop (0+(0:Int).toNat)).take (e23.1.2.2.2.2.2.2.1.toNat-(0:Int).toNat)))++([(⟨e23.2.1.1.1,e23.2.1.1.2.1,(⟨e23.2.1.2.2.2.2.1.1,e23.2.1.2.2.2.2.1.2.1⟩:Result)⟩:en)]:List en))++((e23.2.2.2.1.drop (0+e23.1.2.2.2.2.2.2.1.toNat)).take ((e23.2.2.2.1.length:Int).toNat-e23.1.2.2.2.2.2.2.1.toNat))).length*32<=2 ^ 40) (some ((⟨e23.2.2.1,(((([]:List en)++((e23.2.2.2.1.drop (0+(0:Int).toNat)).take (e23.1.2.2.2.2.2.2.1.toNat-(0:Int).toNat)))++([(⟨e23.2.1.1.1,e23.2.1.1.2.1,(⟨e23.2.1.2.2.2.2.1.1,e23.2.1.2.2.2.2.1.2.1⟩:Result)⟩:en)]:List en))++((e23.2.2.2.1.drop (0+e23.1.2.2.2.2.2.2.1.toNat)).take ((e23.2.2.2.1.length:Int).toNat-e23.1.2.2.2.2.2.2.1.toNat)))⟩:eK),(⟨e23.2.1.2.2.2.2.1.1,e23.2.1.2.2.2.2.1.2.1⟩:Result),true,())) none) none) none) none) none) none)) none) none) (let j43 (p26:List Int):Option (eK×Result×Bool×Unit):=(rz (((),(),(),(),y4.2.1,(),0,()),((a1.client,a1.seq,a1.kind,a1.object,a1.old,a1.value,()),((),(),()),(false,0,()),((),(),()),((x5==a1.old),x5,()),()),p26,y1.1.sessions,())).bind λe42=>iteP (0<=e42.1.2.2.2.2.2.2.1/\e42.1.2.2.2.2.2.2.1<=(e42.2.2.2.1.length:Int)/\(e42.2.2.2.1.length:Int)<=((e42.2.2.2.1.length:Nat):Int)) (br e42.1.2.2.2.2.1 (iteP (0<=(IntKind.wrap .i64 (e42.1.2.2.2.2.2.2.1+1))/\(IntKind.wrap .i64 (e42.1.2.2.2.2.2.2.1+1))<=(e42.2.2.2.1.length:Int)/\(e42.2.2.2.1.length:Int)<=((e42.2.2.2.1.length:Nat):Int)) (iteP (0<=(0:Int)/\(0:Int)<=e42.1.2.2.2.2.2.2.1/\e42.1.2.2.2.2.2.2.1<=((e42.2.2.2.1.length:Nat):Int)) (iteP ((0+(0:Int).toNat)+(e42.1.2.2.2.2.2.2.1.toNat-(0:Int).toNat)<=e42.2.2.2.1.length) (iteP ((([]:List en)++((e42.2.2.2.1.drop (0+(0:Int).toNat)).take (e42.1.2.2.2.2.2.2.1.toNat-(0:Int).toNat))).length*32<=2 ^ 40) (iteP (((([]:List en)++((e42.2.2.2.1.drop (0+(0:Int).toNat)).take (e42.1.2.2.2.2.2.2.1.toNat-(0:Int).toNat)))++([(⟨e42.2.1.1.1,e42.2.1.1.2.1,(⟨e42.2.1.2.2.2.2.1.1,e42.2.1.2.2.2.2.1.2.1⟩:Result)⟩:en)]:List en)).length*32<=2 ^ 40) (iteP ((0+(IntKind.wrap .i64 (e42.1.2.2.2.2.2.2.1+1)).toNat)+((e42.2.2.2.1.length:Int).toNat-(IntKind.wrap .i64 (e42.1.2.2.2.2.2.2.1+1)).toNat)<=e42.2.2.2.1.length) (iteP ((((([]:List en)++((e42.2.2.2.1.drop (0+(0:Int).toNat)).take (e42.1.2.2.2.2.2.2.1.toNat-(0:Int).toNat)))++([(⟨e42.2.1.1.1,e42.2.1.1.2.1,(⟨e42.2.1.2.2.2.2.1.1,e42.2.1.2.2.2.2.1.2.1⟩:Result)⟩:en)]:List en))++((e42.2.2.2.1.drop (0+(IntKind.wrap .i64 (e42.1.2.2.2.2.2.2.1+1)).toNat)).take ((e42.2.2.2.1.length:Int).toNat-(IntKind.wrap .i64 (e42.1.2.2.2.2.2.2.1+1)).toNat))).length*32<=2 ^ 40) (some ((⟨e42.2.2.1,(((([]:List en)++((e42.2.2.2.1.drop (0+(0:Int).toNat)).take (e42.1.2.2.2.2.2.2.1.toNat-(0:Int).toNat)))++([(⟨e42.2.1.1.1,e42.2.1.1.2.1,(⟨e42.2.1.2.2.2.2.1.1,e42.2.1.2.2.2.2.1.2.1⟩:Result)⟩:en)]:List en))++((e42.2.2.2.1.drop (0+(IntKind.wrap .i64 (e42.1.2.2.2.2.2.2.1+1)).toNat)).take ((e42.2.2.2.1.length:Int).toNat-(IntKind.wrap .i64 (e42.1.2.2.2.2.2.2.1+1)).toNat)))⟩:eK),(⟨e42.2.1.2.2.2.2.1.1,e42.2.1.2.2.2.2.1.2.1⟩:Result),true,())) none) none) none) none) none) none) none) (iteP (0<=(0:Int)/\(0:Int)<=e42.1.2.2.2.2.2.2.1/\e42.1.2.2.2.2.2.2.1<=((e42.2.2.2.1.length:Nat):Int)) (iteP ((0+(0:Int).toNat)+(e42.1.2.2.2.2.2.2.1.toNat-(0:Int).toNat)<=e42.2.2.2.1.length) (iteP ((([]:List en)++((e42.2.2.2.1.drop (0+(0:Int).toNat)).take (e42.1.2.2.2.2.2.2.1.toNat-(0:Int).toNat))).length*32<=2 ^ 40) (iteP (((([]:List en)++((e42.2.2.2.1.drop (0+(0:Int).toNat)).take (e42.1.2.2.2.2.2.2.1.toNat-(0:Int).toNat)))++([(⟨e42.2.1.1.1,e42.2.1.1.2.1,(⟨e42.2.1.2.2.2.2.1.1,e42.2.1.2.2.2.2.1.2.1⟩:Result)⟩:en)]:List en)).length*32<=2 ^ 40) (iteP ((0+e42.1.2.2.2.2.2.2.1.toNat)+((e42.2.2.2.1.length:Int).toNat-e42.1.2.2.2.2.2.2.1.toNat)<=e42.2.2.2.1.length) (iteP ((((([]:List en)++((e42.2.2.2.1.drop (0+(0:Int).toNat)).take (e42.1.2.2.2.2.2.2.1.toNat-(0:Int).toNat)))++([(⟨e42.2.1.1.1,e42.2.1.1.2.1,(⟨e42.2.1.2.2.2.2.1.1,e42.2.1.2.2.2.2.1.2.1⟩:Result)⟩:en)]:List en))++((e42.2.2.2.1.drop (0+e42.1.2.2.2.2.2.2.1.toNat)).take ((e42.2.2.2.1.length:Int).toNat-e42.1.2.2.2.2.2.2.1.toNat))).length*32<=2 ^ 40) (some ((⟨e42.2.2.1,(((([]:List en)++((e42.2.2.2.1.drop (0+(0:Int).toNat)).take (e42.1.2.2.2.2.2.2.1.toNat-(0:Int).toNat)))++([(⟨e42.2.1.1.1,e42.2.1.1.2.1,(⟨e42.2.1.2.2.2.2.1.1,e42.2.1.2.2.2.2.1.2.1⟩:Result)⟩:en)]:List en))++((e42.2.2.2.1.drop (0+e42.1.2.2.2.2.2.2.1.toNat)).take ((e42.2.2.2.1.length:Int).toNat-e42.1.2.2.2.2.2.2.1.toNat)))⟩:eK),(⟨e42.2.1.2.2.2.2.1.1,e42.2.1.2.2.2.2.1.2.1⟩:Result),true,())) none) none) none) none) none) none)) none;br (x5==a1.old) (iteP (0<=a1.object/\a1.object< (y1.1.objects.length:Int)) ((y1.1.objects[a1.object.toNat]?).bind λ_=>j43 (y1.1.objects.set a1.object.toNat a1.value)) none) (j43 y1.1.objects))) none;br y4.2.1 (br (decide (y4.1.seq>a1.seq)) (some (y1.1,(⟨false,0⟩:Result),false,())) (j44)) (j44);br y4.2.1 (br (y4.1.seq==a1.seq) (some (y1.1,y4.1.result,true,())) (j45)) (j45)))
def Bu[eg] :=fw 141 Tryz.f141 Vj Ve (λx=>na x.1 x.2.1) [RN,uD,qD,KI] [Ib] (by kernel_rfl) λx=>by simp only[na,tm];kernel_rfl
abbrev yA:LX:=⟨⟨[wJ,ut,yt,so],[Kz,KB],Kx,0,29⟩,[(.ext 0,⟨[ut,yt],[Kz,KB],Kx,0,29⟩)],[],[0,2,4,5],[2,4]⟩
def kC(s: (List eA×Unit×Unit×Int×Unit)×(H0×H0×Unit)×List Int×List en×Unit):yA.R:=
 br (decide (s.1.2.2.2.1< (s.1.1.length:Int))) (iteP (0<=s.1.2.2.2.1) ((s.1.1[s.1.2.2.2.1.toNat]?).bind λx7=>(na (⟨s.2.2.1,s.2.2.2.1⟩:eK) x7.op).bind λy8=>some (.inl ((s.1.1,(),(),(IntKind.wrap .i64 (s.1.2.2.2.1+1)),()),(((),(),()),((),(),()),()),y8.1.objects,y8.1.sessions,()))) none) (some (.inr (((),(),()),s.2)))
def yB:=hO kC
def FO[eg] :=ky Tryz.f140 [0] yA kC [Bu] [] (by kernel_rfl) λs=>by simp only[kC,tm];kernel_rfl
def kj(a0:List eA):Option (eK×Bool×Unit):=
 (oZ).bind λy1=>(hU a0).bind λy2=>br (!y2.1) (some ((⟨([]:List Int),([]:List en)⟩:eK),false,())) ((yB ((a0,(),(),0,()),(((),(),()),((),(),()),()),y1.1.objects,y1.1.sessions,())).bind λe9=>some ((⟨e9.2.2.1,e9.2.2.2.1⟩:eK),true,()))
def wP[eg] :=fw 140 Tryz.f140 Bn [.st .machine,.b] (λx=>kj x.1) [Ia,ry] [FO] (by kernel_rfl) λx=>by simp only[kj,tm];kernel_rfl
def kD(a0:Op):Option (Bool×Unit):=
 some ((a0.kind==2),())
def yC[eg] :=fw 142 Tryz.f142 Ks [.b] (λx=>kD x.1) [] [] (by kernel_rfl) λx=>by simp only[kD,tm];kernel_rfl
def iV(a0:eh)(a1:Int):Option (Bool×Unit):=
 (ew a0).bind λy1=>br y1.1 ((eL a1 0 4).bind λy2=>br y2.1 (iteP (0<=a1) ((a0.servers[a1.toNat]?).bind λx3=>(gb x3 a1).bind λy4=>some (y4.1,())) none) (some (false,()))) (some (false,()))
def rA[eg] :=fw 197 Tryz.f197 tc [.b] (λx=>iV x.1 x.2.1) [eM,fO,kT] [] (by kernel_rfl) λx=>by simp only[iV,tm];kernel_rfl
abbrev uE:LX:=⟨⟨[wk,Ag,uv,tF],[],lq,0,34⟩,[(.ext 0,⟨[Ag,uv],[],lq,0,34⟩)],[],[0,1,5,6],[1,5]⟩
def jx(s:Ry×Unit×List Int×Unit):uE.R:=
 br (decide (s.1.2.2.2.1< (s.1.1.length:Int))) (iteP (0<=s.1.2.2.2.1) ((s.1.1[s.1.2.2.2.1.toNat]?).bind λx5=>(kM s.2.2.1 x5).bind λy6=>some (.inl ((s.1.1,s.1.2.1,(),(IntKind.wrap .i64 (s.1.2.2.2.1+1)),()),(()),y6.1,()))) none) (some (.inr ((s.1.2.1,(),()),(()),s.2.2)))
def uF:=hO jx
def Bv[eg] :=ky Tryz.f129 [0] uE jx [vA] [] (by kernel_rfl) λs=>by simp only[jx,tm];kernel_rfl
abbrev uG:LX:=⟨⟨[Ag,uv,yf],[],lq,0,34⟩,[(.ext 2,⟨[uv],[],lq,0,34⟩)],[],[1,5,7],[5]⟩
def jy(s:Vy×Unit×List Int×Unit):uG.R:=
 br (decide (s.1.2.2.1< (s.1.1.length:Int))) (iteP (0<=s.1.2.2.1) ((s.1.1[s.1.2.2.1.toNat]?).bind λx11=>(kM s.2.2.1 x11).bind λy12=>some (.inl ((s.1.1,(),(IntKind.wrap .i64 (s.1.2.2.1+1)),()),(()),y12.1,()))) none) (some (.inr (((),()),(()),s.2.2)))
def uH:=hO jy
def Bw[eg] :=ky Tryz.f129 [1] uG jy [vA] [] (by kernel_rfl) λs=>by simp only[jy,tm];kernel_rfl
def kU(a0:List Int)(a1:List Int):Option ((List Int)×Unit):=
 (uF ((a0,a1,(),0,()),(()),([]:List Int),())).bind λe7=>(uH ((e7.1.1,(),0,()),(()),e7.2.2)).bind λe13=>some e13.2.2
def Ez[eg] :=fw 129 Tryz.f129 HZ pG (λx=>kU x.1 x.2.1) [] [Bv,Bw] (by kernel_rfl) λx=>by simp only[kU,tm];kernel_rfl
def gF(a0:ey):Option ((List Int)×Unit):=
 (eN a0).bind λy1=>br (!y1.1) (some (([]:List Int),())) ((kU a0.replicas a0.witnesses).bind λy2=>some (y2.1,()))
def mF[eg] :=fw 40 Tryz.f40 Me pG (λx=>gF x.1) [nS,Ez] [] (by kernel_rfl) λx=>by simp only[gF,tm];kernel_rfl
abbrev vX:LX:=⟨⟨[ut,so,NY,yf],[pH],lq,0,37⟩,[(.ext 0,⟨[so],[],[],0,37⟩)],[],[2,5,6,7],[5]⟩
def jb(s:Vz×(vw×Unit)×List Int×Unit):vX.R:=
 br (decide (s.1.2.2.2.1< (s.2.2.1.length:Int))) (iteP (0<=s.1.2.2.2.1/\s.1.2.2.2.1< (s.2.2.1.length:Int)) ((s.2.2.1[s.1.2.2.2.1.toNat]?).bind λx17=>iteP (0<=x17) ((s.2.1.1.2.1[x17.toNat]?).bind λx18=>some (.inl (((),(if x18.version<s.1.2.1 then x18.version else s.1.2.1),(),(IntKind.wrap .i64 (s.1.2.2.2.1+1)),()),s.2))) none) none) (some (.inr ((s.1.2.1,()),(()),(()))))
def vY:=hO jb
def CL[eg] :=ky Tryz.f143 [0] vX jb [] [] (by kernel_rfl) λs=>by simp only[jb,tm];kernel_rfl
def jt(a0:eh)(a1:Int):Option (Int×Unit):=
 (iV a0 a1).bind λy1=>br (!y1.1) (some (0,())) (iteP (0<=a1) ((a0.servers[a1.toNat]?).bind λx2=>(gF x2.config).bind λy3=>(vY (((),2,(),0,()),((a0.now,a0.servers,a0.sides,a0.master.configs,a0.master.activated,a0.masterUp,a0.lease.epoch,a0.lease.holder,a0.lease.ends,a0.places,()),()),y3.1,())).bind λe19=>some e19.1) none)
def FP[eg] :=fw 143 Tryz.f143 tc oI (λx=>jt x.1 x.2.1) [rA,mF] [CL] (by kernel_rfl) λx=>by simp only[jt,tm];kernel_rfl
def fX(a0:eh)(a1:Int)(a2:Op):Option (eh×Int×Unit):=
 (fA a0).bind λy1=>(ew a0).bind λy2=>br (!y2.1) (some (y1.1,1,())) ((eL a1 0 4).bind λy3=>br (!y3.1) (some (y1.1,1,())) ((fJ a2).bind λy4=>br (!y4.1) (some (y1.1,1,())) (iteP (0<=a1) ((a0.servers[a1.toNat]?).bind λx5=>br (!x5.up) (some (y1.1,2,())) ((gb x5 a1).bind λy6=>br (!y6.1) (some (y1.1,3,())) ((jJ x5.log a2.client a2.seq).bind λy7=>let j18:Option (eh×Int×Unit):=(kj x5.log).bind λy9=>(na y9.1 a2).bind λy10=>br (!y10.2.2.1) (some (y1.1,11,())) ((kD a2).bind λy11=>let j17:Option (eh×Int×Unit):=iteP (0<=a1/\a1< (y1.1.servers.length:Int)) ((y1.1.servers[a1.toNat]?).bind λx13=>(y1.1.servers[a1.toNat]?).bind λx14=>iteP ((0:Nat)=0) (iteP (x14.log.length<x13.log.length) none (iteP ((x14.log.take x13.log.length++([(⟨x5.epoch,a2⟩:eA)]:List eA)).length*56<=2 ^ 40) (iteP (0<=a1/\a1< (y1.1.servers.length:Int)) ((y1.1.servers[a1.toNat]?).bind λx15=>iteP (a1.toNat=a1.toNat) (some ((⟨y1.1.now,(y1.1.servers.set a1.toNat (⟨x15.up,x15.intact,x15.version,x15.epoch,x15.config,x15.first,(x14.log.take x13.log.length++([(⟨x5.epoch,a2⟩:eA)]:List eA)),x15.commit,x15.learned⟩:eu)),y1.1.sides,y1.1.master,y1.1.masterUp,y1.1.lease,y1.1.places⟩:eh),0,())) none) none) none)) none) none;br y11.1 ((jt a0 a1).bind λy12=>br (decide (y12.1<2)) (some (y1.1,6,())) (br ((x5.log.length:Int)==16) (some (y1.1,5,())) (j17))) (br ((x5.log.length:Int)==16) (some (y1.1,5,())) (j17)));br (decide (y7.1≥0)) (iteP (0<=y7.1) ((x5.log[y7.1.toNat]?).bind λx8=>br (!((x8.op.client==a2.client)&&((x8.op.seq==a2.seq)&&((x8.op.kind==a2.kind)&&((x8.op.object==a2.object)&&((x8.op.old==a2.old)&&((x8.op.value==a2.value)&&true))))))) (some (y1.1,11,())) (br (decide (y7.1≥0)) (some (y1.1,0,())) (j18))) none) (br (decide (y7.1≥0)) (some (y1.1,0,())) (j18))))) none)))
def tI[eg] :=fw 43 Tryz.f43 Rv wj (λx=>fX x.1 x.2.1 x.2.2.1) [gl,eM,fO,qD,kT,KH,wP,Bu,yC,FP] [] (by kernel_rfl) λx=>by simp only[fX,tm,-eq_self];kernel_rfl
def jc(a0:List Int)(a1:Int)(a2:Int):Option (Bool×Unit):=
 (jH a0).bind λy1=>br y1.1 ((eL a1 0 4).bind λy2=>br y2.1 ((eL a2 0 4).bind λy3=>br y3.1 (iteP (0<=a1) ((a0[a1.toNat]?).bind λx4=>iteP (0<=a2) ((a0[a2.toNat]?).bind λx5=>some ((x4==x5),())) none) none) (some (false,()))) (some (false,()))) (some (false,()))
def pR[eg] :=fw 182 Tryz.f182 Vk [.b] (λx=>jc x.1 x.2.1 x.2.2.1) [vz,fO] [] (by kernel_rfl) λx=>by simp only[jc,tm];kernel_rfl
def pS(a0:eh)(a1:Int)(a2:Int):Option (Bool×Unit):=
 iteP (0<=a2) ((a0.servers[a2.toNat]?).bind λx1=>(jc a0.sides a1 a2).bind λy2=>br y2.1 (br x1.up (iteP (0<=a1) ((a0.servers[a1.toNat]?).bind λx3=>br (x1.epoch==x3.epoch) (iteP (0<=a1) ((a0.servers[a1.toNat]?).bind λx4=>br (decide (x1.commit<=(x4.log.length:Int))) (iteP (0<=a1) ((a0.servers[a1.toNat]?).bind λx5=>(iu x1.config x5.config).bind λy6=>some (y6.1,())) none) (some (false,()))) none) (some (false,()))) none) (some (false,()))) (some (false,()))) none
def EA[eg] :=fw 73 Tryz.f73 FJ [.b] (λx=>pS x.1 x.2.1 x.2.2.1) [pR,oY] [] (by kernel_rfl) λx=>by simp only[pS,tm];kernel_rfl
def xT(a0:List eA):Option (Int×(List eA)×Unit):=
 (hU a0).bind λy1=>br (!y1.1) (some (0,([]:List eA),())) (iteP (0<=(if (IntKind.wrap .i64 ((a0.length:Int)-3))>0 then (IntKind.wrap .i64 ((a0.length:Int)-3)) else 0)/\(if (IntKind.wrap .i64 ((a0.length:Int)-3))>0 then (IntKind.wrap .i64 ((a0.length:Int)-3)) else 0)<=(a0.length:Int)/\(a0.length:Int)<=(a0.length:Int)) ((iZ ((a0.drop (if (IntKind.wrap .i64 ((a0.length:Int)-3))>0 then (IntKind.wrap .i64 ((a0.length:Int)-3)) else 0).toNat).take ((a0.length:Int).toNat-(if (IntKind.wrap .i64 ((a0.length:Int)-3))>0 then (IntKind.wrap .i64 ((a0.length:Int)-3)) else 0).toNat))).bind λy2=>some ((if (IntKind.wrap .i64 ((a0.length:Int)-3))>0 then (IntKind.wrap .i64 ((a0.length:Int)-3)) else 0),y2.1,())) none)
def Pj[eg] :=fw 265 Tryz.f265 Bn Vf (λx=>xT x.1) [ry,nA] [] (by kernel_rfl) λx=>by simp only[xT,tm];kernel_rfl
def wQ(a0:List eA):Option (Int×(List eA)×Unit):=
 (xT a0).bind λy1=>some (y1.1,y1.2.1,())
def RP[eg] :=fw 243 Tryz.f243 Bn Vf (λx=>wQ x.1) [Pj] [] (by kernel_rfl) λx=>by simp only[wQ,tm];kernel_rfl
def mG(a0:eh)(a1:Int)(a2:Int):Option (eh×Bool×Unit):=
 (fA a0).bind λy1=>(iV a0 a1).bind λy2=>br (!y2.1) (some (y1.1,false,())) (iteP (0<=a1) ((a0.servers[a1.toNat]?).bind λx3=>(gF x3.config).bind λy4=>(fI y4.1 a2).bind λy5=>br (!y5.1) (some (y1.1,false,())) ((pS a0 a1 a2).bind λy6=>br (!y6.1) (some (y1.1,false,())) (iteP (0<=a1) ((a0.servers[a1.toNat]?).bind λx7=>iteP (0<=a1) ((a0.servers[a1.toNat]?).bind λx8=>(lS x8.config a2).bind λy9=>br (y9.1==3) ((wQ x7.log).bind λy10=>iteP (0<=a2/\a2< (y1.1.servers.length:Int)) (iteP (0<=a2/\a2< (y1.1.servers.length:Int)) ((y1.1.servers[a2.toNat]?).bind λx11=>let z12:=y1.1.servers.set a2.toNat (⟨x11.up,x11.intact,x11.version,x11.epoch,x11.config,y10.1,x11.log,x11.commit,x11.learned⟩:eu);(z12[a2.toNat]?).bind λx13=>some ((⟨y1.1.now,(z12.set a2.toNat (⟨x13.up,x13.intact,x13.version,x13.epoch,x13.config,x13.first,y10.2.1,x13.commit,x13.learned⟩:eu)),y1.1.sides,y1.1.master,y1.1.masterUp,y1.1.lease,y1.1.places⟩:eh),true,())) none) none) ((iZ x7.log).bind λy15=>iteP (0<=a2/\a2< (y1.1.servers.length:Int)) ((y1.1.servers[a2.toNat]?).bind λx16=>some ((⟨y1.1.now,(y1.1.servers.set a2.toNat (⟨x16.up,x16.intact,x16.version,x16.epoch,x16.config,x16.first,y15.1,x16.commit,x16.learned⟩:eu)),y1.1.sides,y1.1.master,y1.1.masterUp,y1.1.lease,y1.1.places⟩:eh),true,())) none)) none) none))) none)
def EB[eg] :=fw 198 Tryz.f198 FJ [.st .cluster,.b] (λx=>mG x.1 x.2.1 x.2.2.1) [gl,rA,mF,jr,EA,uB,RP,nA] [] (by kernel_rfl) λx=>by simp only[mG,tm];kernel_rfl
abbrev o3:LX:=⟨⟨[qX,uw,vU,RD,Kv,(9,.cl (.int .i64))],[td,GQ],Ur,0,74⟩,[(.ext 0,⟨[qX,uw,vU,RD,Kv],[td,GQ],Ur,0,74⟩)],[],[1,4,6,7,8,9],[1,4,6,7,8]⟩
def mq(s:Rz×(ur×ur×Unit)×List Int×List eu×List Int×List ey×List fB×Unit):o3.R:=
 br (decide (s.1.2.2.2.2.2.1< (s.2.2.1.length:Int))) (iteP (0<=s.1.2.2.2.2.2.1/\s.1.2.2.2.2.2.1< (s.2.2.1.length:Int)) ((s.2.2.1[s.1.2.2.2.2.2.1.toNat]?).bind λx25=>(mG (⟨s.2.1.2.1.1,s.2.2.2.1,s.2.2.2.2.1,(⟨s.2.2.2.2.2.1,s.2.1.2.1.2.2.2.2.1⟩:eC),s.2.1.2.1.2.2.2.2.2.1,(⟨s.2.1.2.1.2.2.2.2.2.2.1,s.2.1.2.1.2.2.2.2.2.2.2.1,s.2.1.2.1.2.2.2.2.2.2.2.2.1⟩:fH),s.2.2.2.2.2.2.1⟩:eh) s.1.1 x25).bind λy26=>let j28 (p27:Bool):o3.R:=some (.inl ((s.1.1,(),(),(),p27,(IntKind.wrap .i64 (s.1.2.2.2.2.2.1+1)),()),(s.2.1.1,(y26.1.now,(),(),(),y26.1.master.activated,y26.1.masterUp,y26.1.lease.epoch,y26.1.lease.holder,y26.1.lease.ends,(),()),()),s.2.2.1,y26.1.servers,y26.1.sides,y26.1.master.configs,y26.1.places,()));br s.1.2.2.2.2.1 (j28 y26.2.1) (j28 false)) none) (some (.inr ((s.1.1,(),(),(),s.1.2.2.2.2.1,()),s.2)))
def An:=hO mq
def Ao[eg] :=ky Tryz.f96 [0] o3 mq [EB] [] (by kernel_rfl) λs=>by simp only[mq,tm];kernel_rfl
abbrev sB:LX:=⟨⟨[qX,uw,vU,RD,Kv,vT],[td,GQ],Ur,0,74⟩,[(.ext 2,⟨[uw,vU,Kv],[td,Mj],RJ,0,74⟩)],[],[1,4,6,7,8,12],[4,6,8]⟩
def lE(s:Rz×(ur×ur×Unit)×List Int×List eu×List Int×List ey×List fB×Unit):sB.R:=
 br (decide (s.1.2.2.2.2.2.1< (s.2.2.1.length:Int))) (br s.1.2.2.2.2.1 (iteP (0<=s.1.2.2.2.2.2.1/\s.1.2.2.2.2.2.1< (s.2.2.1.length:Int)) ((s.2.2.1[s.1.2.2.2.2.2.1.toNat]?).bind λx50=>iteP (0<=s.1.1/\s.1.1< (s.2.2.2.1.length:Int)) ((s.2.2.2.1[s.1.1.toNat]?).bind λx51=>iteP (0<=x50/\x50< (s.2.2.2.1.length:Int)) ((s.2.2.2.1[x50.toNat]?).bind λx52=>some (.inl ((s.1.1,(),(),(),s.1.2.2.2.2.1,(IntKind.wrap .i64 (s.1.2.2.2.2.2.1+1)),()),s.2.1,s.2.2.1,(s.2.2.2.1.set x50.toNat (⟨x52.up,x52.intact,x52.version,x52.epoch,x52.config,x52.first,x52.log,((x51.log.length:Nat):Int),x52.learned⟩:eu)),s.2.2.2.2))) none) none) none) (some (.inr (((),(),s.1.2.2.2.2.1,()),s.2.1,s.2.2.2)))) (some (.inr (((),(),s.1.2.2.2.2.1,()),s.2.1,s.2.2.2)))
def zA:=hO lE
def zB[eg] :=ky Tryz.f96 [1] sB lE [] [] (by kernel_rfl) λs=>by simp only[lE,tm];kernel_rfl
def jY(a0:eh)(a1:Int):Option (eh×Bool×Unit):=
 (fA a0).bind λy1=>(iV a0 a1).bind λy2=>br (!y2.1) (some (y1.1,false,())) (iteP (0<=a1) ((a0.servers[a1.toNat]?).bind λx3=>(gF x3.config).bind λy4=>(An ((a1,(),(),(),true,0,()),((0,(),(),(),0,0,0,0,0,(),()),(y1.1.now,(),(),(),y1.1.master.activated,y1.1.masterUp,y1.1.lease.epoch,y1.1.lease.holder,y1.1.lease.ends,(),()),()),y4.1,y1.1.servers,y1.1.sides,y1.1.master.configs,y1.1.places,())).bind λe29=>(zA ((e29.1.1,(),(),(),e29.1.2.2.2.2.1,0,()),e29.2)).bind λe54=>some ((⟨e54.2.1.2.1.1,e54.2.2.1,e54.2.2.2.1,(⟨e54.2.2.2.2.1,e54.2.1.2.1.2.2.2.2.1⟩:eC),e54.2.1.2.1.2.2.2.2.2.1,(⟨e54.2.1.2.1.2.2.2.2.2.2.1,e54.2.1.2.1.2.2.2.2.2.2.2.1,e54.2.1.2.1.2.2.2.2.2.2.2.2.1⟩:fH),e54.2.2.2.2.2.1⟩:eh),e54.1.2.2)) none)
def vZ[eg] :=fw 96 Tryz.f96 tc [.st .cluster,.b] (λx=>jY x.1 x.2.1) [gl,rA,mF] [Ao,zB] (by kernel_rfl) λx=>by simp only[jY,tm];kernel_rfl
def pT(a0:List eA)(a1:Int):Option (Result×Bool×Unit):=
 (hU a0).bind λy1=>br (!y1.1) (some ((⟨false,0⟩:Result),false,())) ((eL a1 0 (IntKind.wrap .i64 ((a0.length:Int)-1))).bind λy2=>br (!y2.1) (some ((⟨false,0⟩:Result),false,())) (iteP (0<=(0:Int)/\(0:Int)<=a1/\a1<=(a0.length:Int)) ((kj ((a0.drop (0:Int).toNat).take (a1.toNat-(0:Int).toNat))).bind λy3=>iteP (0<=a1) ((a0[a1.toNat]?).bind λx4=>(na y3.1 x4.op).bind λy5=>some (y5.2.1,y5.2.2.1,())) none) none))
def Mo[eg] :=fw 288 Tryz.f288 Rx [.st .result,.b] (λx=>pT x.1 x.2.1) [ry,fO,wP,Bu] [] (by kernel_rfl) λx=>by simp only[pT,tm];kernel_rfl
def sC(a0:eh)(a1:Int)(a2:Op):Option (eh×lu×Unit):=
 (fX a0 a1 a2).bind λy1=>br (!(y1.2.1==0)) (some (y1.1,(⟨y1.2.1,(⟨false,0⟩:Result),0⟩:lu),())) (iteP (0<=a1/\a1< (y1.1.servers.length:Int)) ((y1.1.servers[a1.toNat]?).bind λx2=>(y1.1.servers[a1.toNat]?).bind λx3=>iteP (0+x2.log.length<=x3.log.length) ((jJ ((x3.log.drop 0).take x2.log.length) a2.client a2.seq).bind λy4=>iteP (0<=a1/\a1< (y1.1.servers.length:Int)) ((y1.1.servers[a1.toNat]?).bind λx5=>br (decide (y4.1≥x5.commit)) ((jY y1.1 a1).bind λy6=>br (!y6.2.1) (some (y6.1,(⟨4,(⟨false,0⟩:Result),0⟩:lu),())) (iteP (0<=a1/\a1< (y6.1.servers.length:Int)) ((y6.1.servers[a1.toNat]?).bind λx20=>(y6.1.servers[a1.toNat]?).bind λx21=>iteP (0+x20.log.length<=x21.log.length) ((pT ((x21.log.drop 0).take x20.log.length) y4.1).bind λy22=>some (y6.1,(⟨0,y22.1,y4.1⟩:lu),())) none) none)) (iteP (0<=a1/\a1< (y1.1.servers.length:Int)) ((y1.1.servers[a1.toNat]?).bind λx23=>(y1.1.servers[a1.toNat]?).bind λx24=>iteP (0+x23.log.length<=x24.log.length) ((pT ((x24.log.drop 0).take x23.log.length) y4.1).bind λy25=>some (y1.1,(⟨0,y25.1,y4.1⟩:lu),())) none) none)) none) none) none)
def Mp[eg] :=fw 271 Tryz.f271 Rv Vg (λx=>sC x.1 x.2.1 x.2.2.1) [tI,KH,vZ,Mo] [] (by kernel_rfl) λx=>by simp only[sC,tm];kernel_rfl
def oB(a0:eh)(a1:Int):Option (Int×Unit):=
 (ew a0).bind λy1=>br (!y1.1) (some (1,())) ((eL a1 0 4).bind λy2=>br (!y2.1) (some (1,())) (iteP (0<=a1) ((a0.servers[a1.toNat]?).bind λx3=>br (!x3.up) (some (2,())) (some (0,()))) none))
def Cr[eg] :=fw 174 Tryz.f174 tc oI (λx=>oB x.1 x.2.1) [eM,fO] [] (by kernel_rfl) λx=>by simp only[oB,tm];kernel_rfl
def o4(a0:fH)(a1:Int)(a2:Int)(a3:Int):Option (Bool×Unit):=
 (kR a0).bind λy1=>br y1.1 ((eL a3 0 999).bind λy2=>br y2.1 (br (decide (a0.ends>0)) (br (a0.epoch==a1) (br (a0.holder==a2) (some ((decide ((IntKind.wrap .i64 (a3+3))<a0.ends)),())) (some (false,()))) (some (false,()))) (some (false,()))) (some (false,()))) (some (false,()))
def Ic[eg] :=fw 305 Tryz.f305 [.ty (.st .lease),.ty (.i .i64),.ty (.i .i64),.ty (.i .i64)] [.b] (λx=>o4 x.1 x.2.1 x.2.2.1 x.2.2.2.1) [uy,fO] [] (by kernel_rfl) λx=>by simp only[o4,tm];kernel_rfl
def kV(a0:eh)(a1:Int):Option (Bool×Unit):=
 (iV a0 a1).bind λy1=>br y1.1 (iteP (0<=a1) ((a0.servers[a1.toNat]?).bind λx2=>(o4 a0.lease x2.config.epoch a1 a0.now).bind λy3=>some (y3.1,())) none) (some (false,()))
def Bx[eg] :=fw 289 Tryz.f289 tc [.b] (λx=>kV x.1 x.2.1) [rA,Ic] [] (by kernel_rfl) λx=>by simp only[kV,tm];kernel_rfl
def gf(a0:eu):Option ((List eA)×Unit):=
 (eL a0.commit a0.first (IntKind.wrap .i64 (a0.first+(a0.log.length:Int)))).bind λy1=>br (!y1.1) (some (([]:List eA),())) (br (decide (a0.first<0)) (some (([]:List eA),())) (iteP (0<=(0:Int)/\(0:Int)<=(IntKind.wrap .i64 (a0.commit-a0.first))/\(IntKind.wrap .i64 (a0.commit-a0.first))<=(a0.log.length:Int)) ((iZ ((a0.log.drop (0:Int).toNat).take ((IntKind.wrap .i64 (a0.commit-a0.first)).toNat-(0:Int).toNat))).bind λy2=>some (y2.1,())) none))
def nT[eg] :=fw 31 Tryz.f31 Kq Pd (λx=>gf x.1) [fO,nA] [] (by kernel_rfl) λx=>by simp only[gf,tm];kernel_rfl
def o5(a0:eK)(a1:Int):Option (Int×Bool×Unit):=
 (ik a0).bind λy1=>br (!y1.1) (some (0,false,())) ((eL a1 0 2).bind λy2=>br (!y2.1) (some (0,false,())) (iteP (0<=a1) ((a0.objects[a1.toNat]?).bind λx3=>some (x3,true,())) none))
def Ie[eg] :=fw 306 Tryz.f306 Ru [.i .i64,.b] (λx=>o5 x.1 x.2.1) [uD,fO] [] (by kernel_rfl) λx=>by simp only[o5,tm];kernel_rfl
def sD(a0:eu)(a1:Int):Option (lu×Unit):=
 (gf a0).bind λy1=>(kj y1.1).bind λy2=>(o5 y2.1 a1).bind λy3=>some ((⟨0,(⟨true,y3.1⟩:Result),a0.commit⟩:lu),())
def Mq[eg] :=fw 290 Tryz.f290 Mf [.st .reply] (λx=>sD x.1 x.2.1) [nT,wP,Ie] [] (by kernel_rfl) λx=>by simp only[sD,tm];kernel_rfl
def qE(a0:eh)(a1:Int)(a2:Int):Option (lu×Unit):=
 (oB a0 a1).bind λy1=>br (!(y1.1==0)) (some ((⟨y1.1,(⟨false,0⟩:Result),0⟩:lu),())) ((eL a2 0 2).bind λy2=>br (!y2.1) (some ((⟨1,(⟨false,0⟩:Result),0⟩:lu),())) (iteP (0<=a1) ((a0.servers[a1.toNat]?).bind λx3=>(gb x3 a1).bind λy4=>br (!y4.1) (some ((⟨3,(⟨false,0⟩:Result),0⟩:lu),())) ((kV a0 a1).bind λy5=>br (!y5.1) (some ((⟨7,(⟨false,0⟩:Result),0⟩:lu),())) (iteP (0<=a1) ((a0.servers[a1.toNat]?).bind λx6=>(sD x6 a2).bind λy7=>some (y7.1,())) none))) none))
def KJ[eg] :=fw 272 Tryz.f272 FJ [.st .reply] (λx=>qE x.1 x.2.1 x.2.2.1) [Cr,fO,kT,Bx,Mq] [] (by kernel_rfl) λx=>by simp only[qE,tm];kernel_rfl
def pU(a0:fH):Option (Int×Unit):=
 (kR a0).bind λy1=>br (!y1.1) (some (0,())) (br (a0.ends==0) (some (0,())) (some ((IntKind.wrap .i64 (a0.ends+3)),())))
def EC[eg] :=fw 58 Tryz.f58 Rr oI (λx=>pU x.1) [uy] [] (by kernel_rfl) λx=>by simp only[pU,tm];kernel_rfl
def kE(a0:fH)(a1:Int):Option (Bool×Unit):=
 (kR a0).bind λy1=>br y1.1 ((eL a1 0 999).bind λy2=>br y2.1 ((pU a0).bind λy3=>some ((decide (a1≥y3.1)),())) (some (false,()))) (some (false,()))
def yD[eg] :=fw 116 Tryz.f116 [.ty (.st .lease),.ty (.i .i64)] [.b] (λx=>kE x.1 x.2.1) [uy,fO,EC] [] (by kernel_rfl) λx=>by simp only[kE,tm];kernel_rfl
def o6(a0:fH)(a1:Int)(a2:Int)(a3:Int)(a4:Int):Option (fH×Bool×Unit):=
 br (a0.epoch==a1) ((kR a0).bind λy1=>br (!y1.1) (some (a0,false,())) ((eL a1 1 20).bind λy2=>br (!y2.1) (some (a0,false,())) ((eL a2 0 4).bind λy3=>br (!y3.1) (some (a0,false,())) ((eL a3 0 999).bind λy4=>br (!y4.1) (some (a0,false,())) ((eL a4 1 50).bind λy5=>br (!y5.1) (some (a0,false,())) ((kE a0 a3).bind λy6=>br (!y6.1) (br (!(a0.holder==a2)) (some (a0,false,())) (br (a0.holder==a2) (some ((⟨a1,a2,(if a0.ends>(IntKind.wrap .i64 (a3+a4)) then a0.ends else (IntKind.wrap .i64 (a3+a4)))⟩:fH),true,())) (some ((⟨a1,a2,(IntKind.wrap .i64 (a3+a4))⟩:fH),true,())))) (br (a0.holder==a2) (some ((⟨a1,a2,(if a0.ends>(IntKind.wrap .i64 (a3+a4)) then a0.ends else (IntKind.wrap .i64 (a3+a4)))⟩:fH),true,())) (some ((⟨a1,a2,(IntKind.wrap .i64 (a3+a4))⟩:fH),true,()))))))))) ((kR a0).bind λy10=>br (!y10.1) (some (a0,false,())) ((eL a1 1 20).bind λy11=>br (!y11.1) (some (a0,false,())) ((eL a2 0 4).bind λy12=>br (!y12.1) (some (a0,false,())) ((eL a3 0 999).bind λy13=>br (!y13.1) (some (a0,false,())) ((eL a4 1 50).bind λy14=>br (!y14.1) (some (a0,false,())) ((kE a0 a3).bind λy15=>br (!y15.1) (br (!false) (some (a0,false,())) (some ((⟨a1,a2,(IntKind.wrap .i64 (a3+a4))⟩:fH),true,()))) (some ((⟨a1,a2,(IntKind.wrap .i64 (a3+a4))⟩:fH),true,()))))))))
def Ig[eg] :=fw 175 Tryz.f175 [.ty (.st .lease),.ty (.i .i64),.ty (.i .i64),.ty (.i .i64),.ty (.i .i64)] [.st .lease,.b] (λx=>o6 x.1 x.2.1 x.2.2.1 x.2.2.2.1 x.2.2.2.2.1) [uy,fO,yD] [] (by kernel_rfl) λx=>by simp only[o6,tm];kernel_rfl
def nc(a0:eh)(a1:Int)(a2:Int):Option (eh×Int×Unit):=
 (fA a0).bind λy1=>(oB a0 a1).bind λy2=>br (!(y2.1==0)) (some (y1.1,y2.1,())) (iteP (0<=a1) ((a0.servers[a1.toNat]?).bind λx3=>(gb x3 a1).bind λy4=>br (!y4.1) (some (y1.1,3,())) (br (decide ((IntKind.wrap .i64 (a0.masterUp*2))<=3)) (some (y1.1,8,())) (iteP (0<=a1) ((a0.sides[a1.toNat]?).bind λx5=>br (!(x5==0)) (some (y1.1,8,())) (br (!(x3.config.epoch==(a0.master.configs.length:Int))) (some (y1.1,11,())) ((o6 a0.lease x3.config.epoch a1 a0.now a2).bind λy6=>br (!y6.2.1) (some (y1.1,7,())) (some ((⟨y1.1.now,y1.1.servers,y1.1.sides,y1.1.master,y1.1.masterUp,y6.1,y1.1.places⟩:eh),0,()))))) none))) none)
def Ap[eg] :=fw 60 Tryz.f60 FJ wj (λx=>nc x.1 x.2.1 x.2.2.1) [gl,Cr,kT,Ig] [] (by kernel_rfl) λx=>by simp only[nc,tm];kernel_rfl
abbrev yE:LX:=⟨⟨[od,Ch,tW],[pH],lq,0,28⟩,[(.ext 0,⟨[Ch],[],lq,0,28⟩)],[],[1,3,4],[3]⟩
def l8(s:Mg×(vw×Unit)×List Int×Unit):yE.R:=
 br (decide (s.1.2.2.1< (s.2.1.1.2.1.length:Int))) ((ew (⟨s.2.1.1.1,s.2.1.1.2.1,s.2.1.1.2.2.1,(⟨s.2.1.1.2.2.2.1,s.2.1.1.2.2.2.2.1⟩:eC),s.2.1.1.2.2.2.2.2.1,(⟨s.2.1.1.2.2.2.2.2.2.1,s.2.1.1.2.2.2.2.2.2.2.1,s.2.1.1.2.2.2.2.2.2.2.2.1⟩:fH),s.2.1.1.2.2.2.2.2.2.2.2.2.1⟩:eh)).bind λy13=>br y13.1 (iteP (0<=s.1.2.2.1) ((s.2.1.1.2.1[s.1.2.2.1.toNat]?).bind λx14=>br x14.up (iteP ((s.2.2.1++([s.1.2.2.1]:List Int)).length*8<=2 ^ 40) (some (.inl (((),(),(IntKind.wrap .i64 (s.1.2.2.1+1)),()),s.2.1,(s.2.2.1++([s.1.2.2.1]:List Int)),()))) none) (some (.inl (((),(),(IntKind.wrap .i64 (s.1.2.2.1+1)),()),s.2)))) none) (some (.inr (((),()),(()),s.2.2)))) (some (.inr (((),()),(()),s.2.2)))
def yF:=hO l8
def FQ[eg] :=ky Tryz.f189 [0] yE l8 [eM] [] (by kernel_rfl) λs=>by simp only[l8,tm];kernel_rfl
def qF(a0:eh):Option ((List Int)×Unit):=
 (yF (((),(),0,()),((a0.now,a0.servers,a0.sides,a0.master.configs,a0.master.activated,a0.masterUp,a0.lease.epoch,a0.lease.holder,a0.lease.ends,a0.places,()),()),([]:List Int),())).bind λe16=>some e16.2.2
def KK[eg] :=fw 189 Tryz.f189 FI pG (λx=>qF x.1) [] [FQ] (by kernel_rfl) λx=>by simp only[qF,tm];kernel_rfl
abbrev wR:LX:=⟨⟨[wk,Ch,tW],[],lq,0,26⟩,[(.ext 0,⟨[Ch],[],lq,0,26⟩)],[],[0,3,4],[3]⟩
def kW(s:Vy×Unit×List Int×Unit):wR.R:=
 br (decide (s.1.2.2.1< (s.1.1.length:Int))) ((jH s.1.1).bind λy4=>br y4.1 (iteP (0<=s.1.2.2.1) ((s.1.1[s.1.2.2.1.toNat]?).bind λx5=>br (x5==0) (iteP ((s.2.2.1++([s.1.2.2.1]:List Int)).length*8<=2 ^ 40) (some (.inl ((s.1.1,(),(IntKind.wrap .i64 (s.1.2.2.1+1)),()),(()),(s.2.2.1++([s.1.2.2.1]:List Int)),()))) none) (some (.inl ((s.1.1,(),(IntKind.wrap .i64 (s.1.2.2.1+1)),()),(()),s.2.2)))) none) (some (.inr (((),()),(()),s.2.2)))) (some (.inr (((),()),(()),s.2.2)))
def wS:=hO kW
def ED[eg] :=ky Tryz.f190 [0] wR kW [vz] [] (by kernel_rfl) λs=>by simp only[kW,tm];kernel_rfl
def o7(a0:List Int):Option ((List Int)×Unit):=
 (wS ((a0,(),0,()),(()),([]:List Int),())).bind λe7=>some e7.2.2
def Ih[eg] :=fw 190 Tryz.f190 Md pG (λx=>o7 x.1) [] [ED] (by kernel_rfl) λx=>by simp only[o7,tm];kernel_rfl
def sE(a0:eh):Option ((List Int)×Unit):=
 (qF a0).bind λy1=>(o7 a0.sides).bind λy2=>(ja y1.1 y2.1).bind λy3=>some (y3.1,())
def Mr[eg] :=fw 85 Tryz.f85 FI pG (λx=>sE x.1) [KK,Ih,qY] [] (by kernel_rfl) λx=>by simp only[sE,tm];kernel_rfl
def gg(a0:eC):Option (ey×Bool×Unit):=
 (jI a0 a0.activated).bind λy1=>some (y1.1,y1.2.1,())
def jd[eg] :=fw 29 Tryz.f29 Pe Rm (λx=>gg x.1) [zu] [] (by kernel_rfl) λx=>by simp only[gg,tm];kernel_rfl
abbrev sF:LX:=⟨⟨[wk,Ag,uv,tF],[],lq,0,28⟩,[(.ext 0,⟨[uv],[],lq,0,28⟩)],[],[0,1,5,6],[5]⟩
def iP(s:Ry×Unit×List Int×Unit):sF.R:=
 br (decide (s.1.2.2.2.1< (s.1.1.length:Int))) (iteP (0<=s.1.2.2.2.1) ((s.1.1[s.1.2.2.2.1.toNat]?).bind λx5=>(fI s.1.2.1 x5).bind λy6=>br (!y6.1) (iteP (0<=s.1.2.2.2.1) ((s.1.1[s.1.2.2.2.1.toNat]?).bind λx7=>(kM s.2.2.1 x7).bind λy8=>some (.inl ((s.1.1,s.1.2.1,(),(IntKind.wrap .i64 (s.1.2.2.2.1+1)),()),(()),y8.1,()))) none) (some (.inl ((s.1.1,s.1.2.1,(),(IntKind.wrap .i64 (s.1.2.2.2.1+1)),()),(()),s.2.2)))) none) (some (.inr (((),()),(()),s.2.2)))
def sG:=hO iP
def zC[eg] :=ky Tryz.f90 [0] sF iP [jr,vA] [] (by kernel_rfl) λs=>by simp only[iP,tm];kernel_rfl
def gm(a0:List Int)(a1:List Int):Option ((List Int)×Unit):=
 (sG ((a0,a1,(),0,()),(()),([]:List Int),())).bind λe10=>some e10.2.2
def pV[eg] :=fw 90 Tryz.f90 HZ pG (λx=>gm x.1 x.2.1) [] [zC] (by kernel_rfl) λx=>by simp only[gm,tm];kernel_rfl
abbrev Ct:LX:=⟨⟨[Ce,Ag,uv,tF],[],lq,0,33⟩,[(.ext 0,⟨[uv],[],lq,0,33⟩)],[],[0,1,5,6],[5]⟩
def tJ(s: (List fB×List Int×Unit×Int×Unit)×Unit×List Int×Unit):Ct.R:=
 br (decide (s.1.2.2.2.1< (s.1.2.1.length:Int))) ((fT s.1.1).bind λy5=>br y5.1 ((gK s.1.2.1).bind λy6=>br y6.1 (iteP (0<=s.1.2.2.2.1) ((s.1.2.1[s.1.2.2.2.1.toNat]?).bind λx7=>iteP (0<=x7) ((s.1.1[x7.toNat]?).bind λx8=>(kM s.2.2.1 x8.rack).bind λy9=>some (.inl ((s.1.1,s.1.2.1,(),(IntKind.wrap .i64 (s.1.2.2.2.1+1)),()),(()),y9.1,()))) none) none) (some (.inr (((),()),(()),s.2.2)))) (some (.inr (((),()),(()),s.2.2)))) (some (.inr (((),()),(()),s.2.2)))
def KL:=hO tJ
def KM[eg] :=ky Tryz.f193 [0] Ct tJ [qB,rx,vA] [] (by kernel_rfl) λs=>by simp only[tJ,tm];kernel_rfl
def uI(a0:List fB)(a1:List Int):Option ((List Int)×Unit):=
 (KL ((a0,a1,(),0,()),(()),([]:List Int),())).bind λe10=>some e10.2.2
def Pk[eg] :=fw 193 Tryz.f193 [.ty (.ls (.st .place)),.ty (.ls (.i .i64))] pG (λx=>uI x.1 x.2.1) [] [KM] (by kernel_rfl) λx=>by simp only[uI,tm];kernel_rfl
def uJ(a0:List fB)(a1:Int):Option (Bool×Unit):=
 (fT a0).bind λy1=>br y1.1 ((eL a1 0 4).bind λy2=>br y2.1 (iteP (0<=a1) ((a0[a1.toNat]?).bind λx3=>iteP (0<=a1) ((a0[a1.toNat]?).bind λx4=>some ((decide (x3.load<x4.capacity)),())) none) none) (some (false,()))) (some (false,()))
def Pm[eg] :=fw 194 Tryz.f194 [.ty (.ls (.st .place)),.ty (.i .i64)] [.b] (λx=>uJ x.1 x.2.1) [qB,fO] [] (by kernel_rfl) λx=>by simp only[uJ,tm];kernel_rfl
def sH(a0:List fB)(a1:List Int)(a2:Int)(a3:Int):Option (Bool×Unit):=
 iteP (0<=a2) ((a0[a2.toNat]?).bind λx1=>(fI a1 x1.rack).bind λy2=>iteP (0<=a3) ((a0[a3.toNat]?).bind λx3=>(fI a1 x3.rack).bind λy4=>br (!(y2.1==y4.1)) (some (y4.1,())) (iteP (0<=a2) ((a0[a2.toNat]?).bind λx5=>iteP (0<=a3) ((a0[a3.toNat]?).bind λx6=>some ((decide (x5.load<x6.load)),())) none) none)) none) none
def Ms[eg] :=fw 195 Tryz.f195 [.ty (.ls (.st .place)),.ty (.ls (.i .i64)),.ty (.i .i64),.ty (.i .i64)] [.b] (λx=>sH x.1 x.2.1 x.2.2.1 x.2.2.2.1) [jr] [] (by kernel_rfl) λx=>by simp only[sH,tm];kernel_rfl
abbrev t6:LX:=⟨⟨[Ce,Ag,(2,.cl (.ro (.i .i64))),yf,NZ,(9,.cl (.int .i64))],[],lq,0,46⟩,[(.ext 0,⟨[yf],[],[],0,46⟩)],[],[0,1,2,7,8,9],[7]⟩
def qj(s: (List fB×List Int×List Int×Int×Unit×Int×Unit)×Unit×List Int×Unit):t6.R:=
 br (decide (s.1.2.2.2.2.2.1<5)) ((gK s.1.2.1).bind λy8=>br y8.1 ((uJ s.1.1 s.1.2.2.2.2.2.1).bind λy9=>let j14 (p13:Int):t6.R:=some (.inl ((s.1.1,s.1.2.1,s.1.2.2.1,p13,(),(IntKind.wrap .i64 (s.1.2.2.2.2.2.1+1)),()),(()),s.2.2));br (!y9.1) (j14 s.1.2.2.2.1) ((fI s.1.2.1 s.1.2.2.2.2.2.1).bind λy10=>br y10.1 (j14 s.1.2.2.2.1) ((fI s.1.2.2.1 s.1.2.2.2.2.2.1).bind λy11=>br y11.1 (j14 s.1.2.2.2.1) (br (decide (s.1.2.2.2.1<0)) (j14 s.1.2.2.2.2.2.1) ((sH s.1.1 s.2.2.1 s.1.2.2.2.2.2.1 s.1.2.2.2.1).bind λy12=>br y12.1 (j14 s.1.2.2.2.2.2.1) (j14 s.1.2.2.2.1)))))) (some (.inr ((s.1.2.2.2.1,()),(()),(()))))) (some (.inr ((s.1.2.2.2.1,()),(()),(()))))
def FR:=hO qj
def FS[eg] :=ky Tryz.f89 [0] t6 qj [rx,Pm,jr,Ms] [] (by kernel_rfl) λs=>by simp only[qj,tm];kernel_rfl
def oC(a0:List fB)(a1:List Int)(a2:List Int):Option (Int×Unit):=
 (uI a0 a1).bind λy1=>(FR ((a0,a1,a2,(-1),(),0,()),(()),y1.1,())).bind λe15=>some e15.1
def Cu[eg] :=fw 89 Tryz.f89 [.ty (.ls (.st .place)),.ty (.ls (.i .i64)),.ty (.ls (.i .i64))] oI (λx=>oC x.1 x.2.1 x.2.2.1) [Pk] [FS] (by kernel_rfl) λx=>by simp only[oC,tm];kernel_rfl
abbrev v4:LX:=⟨⟨[Ce,vx,RE,(10,.cl (.own 1 (.i .i64)))],[],WU,0,52⟩,[(.ret,⟨[NZ,RE],[],lq,0,52⟩),(.ext 0,⟨[(8,.cl (.dead)),RE],[],lq,0,52⟩)],[],[0,3,9,10],[8,9]⟩
def nU(s: (List fB×Int×Unit×Unit×Unit)×Unit×List Int×List Int×Unit):v4.R:=
 br (decide ((s.2.2.1.length:Int)<s.1.2.1)) ((oC s.1.1 s.2.2.1 s.2.2.2.1).bind λy11=>br (decide (y11.1<0)) (some (.inr (.inl (((),(),()),(()),s.2.2.1,())))) ((kM s.2.2.1 y11.1).bind λy12=>some (.inl (s.1,(()),y12.1,s.2.2.2)))) (some (.inr (.inr (((),(),()),(()),s.2.2.1,()))))
def CM:=hO nU
def CN[eg] :=ky Tryz.f87 [0] v4 nU [Cu,vA] [] (by kernel_rfl) λs=>by simp only[nU,tm];kernel_rfl
def nB(a0:List fB)(a1:List Int)(a2:List Int)(a3:Int):Option ((List Int)×Unit):=
 (ja a1 a2).bind λy1=>(gm ([0,1,2,3,4]:List Int) a2).bind λy2=>(fT a0).bind λy3=>br (!y3.1) (some (([]:List Int),())) ((gK a1).bind λy4=>br (!y4.1) (some (([]:List Int),())) ((gK a2).bind λy5=>br (!y5.1) (some (([]:List Int),())) ((eL a3 0 5).bind λy6=>br (!y6.1) (some (([]:List Int),())) ((CM ((a0,a3,(),(),()),(()),y1.1,y2.1,())).bind λe13=>Sum.elim (λe13_0=>some e13_0.2.2) (λe13_1=>some e13_1.2.2) e13))))
def FT[eg] :=fw 87 Tryz.f87 [.ty (.ls (.st .place)),.ty (.ls (.i .i64)),.ty (.ls (.i .i64)),.ty (.i .i64)] pG (λx=>nB x.1 x.2.1 x.2.2.1 x.2.2.2.1) [qY,pV,qB,rx,fO] [CN] (by kernel_rfl) λx=>by simp only[nB,tm];kernel_rfl
abbrev sI:LX:=⟨⟨[qX,Ah,Ai,vU,NZ,(9,.cl (.ptr 2 0)),VI,vT],[pH,VQ,VS],VL,0,132⟩,[(.ext 0,⟨[qX,Ah,Ai,vU,NZ,(9,.cl (.ptr 2 0)),VI],[pH,VQ,VS],VL,0,132⟩)],[],[1,2,3,6,8,9,11,12],[1,2,3,6,8,9,11]⟩
def o8(s: (Int×Int×Unit×Unit×Unit×Unit×Unit×Int×Unit)×(vw×H1×H1×Unit)×List Int×List Int×List Int×List Int×Unit):sI.R:=
 br (decide (s.1.2.2.2.2.2.2.2.1< (s.2.2.2.2.1.length:Int))) (iteP (0<=s.1.2.2.2.2.2.2.2.1/\s.1.2.2.2.2.2.2.2.1< (s.2.2.2.2.1.length:Int)) ((s.2.2.2.2.1[s.1.2.2.2.2.2.2.2.1.toNat]?).bind λx27=>(fI s.2.2.1 x27).bind λy28=>let j33 (p32:List Int):sI.R:=some (.inl ((s.1.1,s.1.2.1,(),(),(),(),(),(IntKind.wrap .i64 (s.1.2.2.2.2.2.2.2.1+1)),()),s.2.1,s.2.2.1,p32,s.2.2.2.2));br y28.1 (iteP (0<=s.1.2.2.2.2.2.2.2.1/\s.1.2.2.2.2.2.2.2.1< (s.2.2.2.2.1.length:Int)) ((s.2.2.2.2.1[s.1.2.2.2.2.2.2.2.1.toNat]?).bind λx29=>iteP (0<=x29) ((s.2.1.1.2.1[x29.toNat]?).bind λx30=>br (x30.config.epoch==s.2.1.2.2.1.1) (iteP (0<=s.1.2.2.2.2.2.2.2.1/\s.1.2.2.2.2.2.2.2.1< (s.2.2.2.2.1.length:Int)) ((s.2.2.2.2.1[s.1.2.2.2.2.2.2.2.1.toNat]?).bind λx31=>iteP ((s.2.2.2.1++([x31]:List Int)).length*8<=2 ^ 40) (j33 (s.2.2.2.1++([x31]:List Int))) none) none) (j33 s.2.2.2.1)) none) none) (j33 s.2.2.2.1)) none) (some (.inr ((s.1.1,s.1.2.1,(),(),(),(),(),()),s.2)))
def EE:=hO o8
def EF[eg] :=ky Tryz.f18 [0] sI o8 [jr] [] (by kernel_rfl) λs=>by simp only[o8,tm];kernel_rfl
def ne(a0:eh)(a1:Int)(a2:Int):Option (ey×Bool×Unit):=
 (ew a0).bind λy1=>br (!y1.1) (some ((⟨0,0,([]:List Int),([]:List Int)⟩:ey),false,())) ((eL a1 1 3).bind λy2=>br (!y2.1) (some ((⟨0,0,([]:List Int),([]:List Int)⟩:ey),false,())) ((eL a2 0 1).bind λy3=>br (!y3.1) (some ((⟨0,0,([]:List Int),([]:List Int)⟩:ey),false,())) (br ((a0.master.configs.length:Int)==20) (some ((⟨0,0,([]:List Int),([]:List Int)⟩:ey),false,())) ((sE a0).bind λy4=>(gg a0.master).bind λy5=>(EE ((a1,a2,(),(),(),(),(),0,()),((a0.now,a0.servers,a0.sides,a0.master.configs,a0.master.activated,a0.masterUp,a0.lease.epoch,a0.lease.holder,a0.lease.ends,a0.places,()),(0,0,(),(),()),(y5.1.epoch,y5.1.primary,(),(),()),()),y4.1,([]:List Int),y5.1.replicas,y5.1.witnesses,())).bind λe34=>(nB e34.2.1.1.2.2.2.2.2.2.2.2.2.1 e34.2.2.2.1 e34.2.2.1 e34.1.1).bind λy35=>br ((y35.1.length:Int)==0) (some ((⟨0,0,([]:List Int),([]:List Int)⟩:ey),false,())) (iteP (0<=(0:Int)/\(0:Int)< (y35.1.length:Int)) ((y35.1[(0:Int).toNat]?).bind λx36=>(fI y35.1 e34.2.1.2.2.1.2.1).bind λy37=>let j43 (p39:Int):Option (ey×Bool×Unit):=br (e34.1.2.1==1) ((gm ([0,1,2,3,4]:List Int) e34.2.2.1).bind λy40=>(oC e34.2.1.1.2.2.2.2.2.2.2.2.2.1 y35.1 y40.1).bind λy41=>br (decide (y41.1≥0)) (some ((⟨(IntKind.wrap .i64 ((e34.2.1.1.2.2.2.1.length:Int)+1)),p39,y35.1,([y41.1]:List Int)⟩:ey),true,())) (some ((⟨(IntKind.wrap .i64 ((e34.2.1.1.2.2.2.1.length:Int)+1)),p39,y35.1,([]:List Int)⟩:ey),true,()))) (some ((⟨(IntKind.wrap .i64 ((e34.2.1.1.2.2.2.1.length:Int)+1)),p39,y35.1,([]:List Int)⟩:ey),true,()));br y37.1 ((l7 (⟨e34.2.1.2.2.1.1,e34.2.1.2.2.1.2.1,e34.2.2.2.2.1,e34.2.2.2.2.2.1⟩:ey)).bind λy38=>br (!y38.1) (j43 e34.2.1.2.2.1.2.1) (j43 x36)) (j43 x36)) none)))))
def Aq[eg] :=fw 18 Tryz.f18 FJ Rm (λx=>ne x.1 x.2.1 x.2.2.1) [eM,fO,Mr,jd,jr,FT,xS,pV,Cu] [EF] (by kernel_rfl) λx=>by simp only[ne,tm];kernel_rfl
def jZ(a0:eC)(a1:ey):Option (eC×Bool×Unit):=
 (pP a0).bind λy1=>(fW a0).bind λy2=>br (!y2.1) (some (y1.1,false,())) ((eN a1).bind λy3=>br (!y3.1) (some (y1.1,false,())) (br (!(a1.epoch==(IntKind.wrap .i64 ((a0.configs.length:Int)+1)))) (some (y1.1,false,())) ((kQ a1).bind λy4=>iteP ((y1.1.configs++([y4.1]:List ey)).length*64<=2 ^ 40) (some ((⟨(y1.1.configs++([y4.1]:List ey)),y1.1.activated⟩:eC),true,())) none)))
def v5[eg] :=fw 124 Tryz.f124 [.ty (.st .masterLog),.ty (.st .config)] [.st .masterLog,.b] (λx=>jZ x.1 x.2.1) [Bp,qh,nS,wN] [] (by kernel_rfl) λx=>by simp only[jZ,tm];kernel_rfl
def kF(a0:eh)(a1:ey):Option (eh×Int×Unit):=
 (fA a0).bind λy1=>(ew a0).bind λy2=>br (!y2.1) (some (y1.1,1,())) (br (decide ((IntKind.wrap .i64 (a0.masterUp*2))<=3)) (some (y1.1,8,())) ((jZ a0.master a1).bind λy3=>br (!y3.2.1) (some (y1.1,1,())) (some ((⟨y1.1.now,y1.1.servers,y1.1.sides,y3.1,y1.1.masterUp,y1.1.lease,y1.1.places⟩:eh),0,()))))
def t7[eg] :=fw 37 Tryz.f37 [.ty (.st .cluster),.ty (.st .config)] wj (λx=>kF x.1 x.2.1) [gl,eM,v5] [] (by kernel_rfl) λx=>by simp only[kF,tm];kernel_rfl
def rB(a0:eC):Option (ey×Bool×Unit):=
 (jI a0 (a0.configs.length:Int)).bind λy1=>some (y1.1,y1.2.1,())
def Ii[eg] :=fw 115 Tryz.f115 Pe Rm (λx=>rB x.1) [zu] [] (by kernel_rfl) λx=>by simp only[rB,tm];kernel_rfl
def km(a0:eu)(a1:Int):Option (eu×Bool×Unit):=
 (jX a0).bind λy1=>(eL a1 1 20).bind λy2=>br (!y2.1) (some (y1.1,false,())) (br (decide (a1<=a0.epoch)) (some (y1.1,false,())) (br (decide (a0.epoch<0)) (some (y1.1,false,())) (some ((⟨y1.1.up,y1.1.intact,y1.1.version,a1,y1.1.config,y1.1.first,y1.1.log,y1.1.commit,y1.1.learned⟩:eu),true,()))))
def Ar[eg] :=fw 210 Tryz.f210 Mf [.st .server,.b] (λx=>km x.1 x.2.1) [Bo,fO] [] (by kernel_rfl) λx=>by simp only[km,tm];kernel_rfl
abbrev qZ:LX:=⟨⟨[qX,Ah,Ai,vU,(7,.cl (.ptr 2 0)),(10,.cl (.own 0 (.i .i64))),GN],[pH,td,GQ],Ur,0,85⟩,[(.ext 0,⟨[(6,.cl (.ptr 0 0)),(7,.cl (.ptr 1 0))],[td,Mj],RJ,0,85⟩)],[],[1,2,3,6,7,10,11],[6,7]⟩
def nV(s: (Int×Int×Unit×Unit×Unit×Unit×Int×Unit)×(vw×ur×ur×Unit)×List Int×List eu×List Int×List ey×List fB×Unit):qZ.R:=
 br (decide (s.1.2.2.2.2.2.2.1< (s.2.2.1.length:Int))) (iteP (0<=s.1.2.2.2.2.2.2.1/\s.1.2.2.2.2.2.2.1< (s.2.2.1.length:Int)) ((s.2.2.1[s.1.2.2.2.2.2.2.1.toNat]?).bind λx36=>iteP (0<=x36) ((s.2.1.1.2.1[x36.toNat]?).bind λx37=>let j47 (p46:List eu):qZ.R:=some (.inl ((s.1.1,s.1.2.1,(),(),(),(),(IntKind.wrap .i64 (s.1.2.2.2.2.2.2.1+1)),()),s.2.1,s.2.2.1,p46,s.2.2.2.2));br x37.up (iteP (0<=s.1.2.2.2.2.2.2.1/\s.1.2.2.2.2.2.2.1< (s.2.2.1.length:Int)) ((s.2.2.1[s.1.2.2.2.2.2.2.1.toNat]?).bind λx38=>(jc s.2.1.1.2.2.1 s.1.1 x38).bind λy39=>br y39.1 (iteP (0<=s.1.2.2.2.2.2.2.1/\s.1.2.2.2.2.2.2.1< (s.2.2.1.length:Int)) ((s.2.2.1[s.1.2.2.2.2.2.2.1.toNat]?).bind λx40=>iteP (0<=s.1.2.2.2.2.2.2.1/\s.1.2.2.2.2.2.2.1< (s.2.2.1.length:Int)) ((s.2.2.1[s.1.2.2.2.2.2.2.1.toNat]?).bind λx41=>iteP (0<=x41) ((s.2.1.1.2.1[x41.toNat]?).bind λx42=>(km x42 s.1.2.1).bind λy43=>iteP (0<=x40/\x40< (s.2.2.2.1.length:Int)) ((s.2.2.2.1[x40.toNat]?).bind λ_=>j47 (s.2.2.2.1.set x40.toNat y43.1)) none) none) none) none) (j47 s.2.2.2.1)) none) (j47 s.2.2.2.1)) none) none) (some (.inr (((),(),()),s.2.1.2,s.2.2.2)))
def CO:=hO nV
def CP[eg] :=ky Tryz.f117 [0] qZ nV [pR,Ar] [] (by kernel_rfl) λs=>by simp only[nV,tm];kernel_rfl
def nC(a0:eh)(a1:Int)(a2:Int):Option (eh×Unit):=
 (fA a0).bind λy1=>(gg a0.master).bind λy2=>(ew a0).bind λy3=>br (!y3.1) (some (y1.1,())) (br (!y2.2.1) (some (y1.1,())) ((eL a2 1 (a0.master.configs.length:Int)).bind λy4=>br (!y4.1) (some (y1.1,())) ((gF y2.1).bind λy5=>(CO ((a1,a2,(),(),(),(),0,()),((a0.now,a0.servers,a0.sides,a0.master.configs,a0.master.activated,a0.masterUp,a0.lease.epoch,a0.lease.holder,a0.lease.ends,a0.places,()),(0,(),(),(),0,0,0,0,0,(),()),(y1.1.now,(),(),(),y1.1.master.activated,y1.1.masterUp,y1.1.lease.epoch,y1.1.lease.holder,y1.1.lease.ends,(),()),()),y5.1,y1.1.servers,y1.1.sides,y1.1.master.configs,y1.1.places,())).bind λe48=>some ((⟨e48.2.1.2.1.1,e48.2.2.1,e48.2.2.2.1,(⟨e48.2.2.2.2.1,e48.2.1.2.1.2.2.2.2.1⟩:eC),e48.2.1.2.1.2.2.2.2.2.1,(⟨e48.2.1.2.1.2.2.2.2.2.2.1,e48.2.1.2.1.2.2.2.2.2.2.2.1,e48.2.1.2.1.2.2.2.2.2.2.2.2.1⟩:fH),e48.2.2.2.2.2.1⟩:eh),()))))
def FU[eg] :=fw 117 Tryz.f117 FJ Pc (λx=>nC x.1 x.2.1 x.2.2.1) [gl,jd,eM,fO,mF] [CP] (by kernel_rfl) λx=>by simp only[nC,tm];kernel_rfl
abbrev sJ:LX:=⟨⟨[qX,ut,uv,vU,Kw,yu],[pH,KC],VN,0,74⟩,[(.ext 0,⟨[uv],[],lq,0,74⟩)],[],[1,2,5,6,7,8],[5]⟩
def o9(s:Rz×(vw×H1×Unit)×List Int×List Int×List Int×Unit):sJ.R:=
 br (decide (s.1.2.2.2.2.2.1< (s.2.2.2.1.length:Int))) (br s.1.2.2.2.2.1 ((ew (⟨s.2.1.1.1,s.2.1.1.2.1,s.2.1.1.2.2.1,(⟨s.2.1.1.2.2.2.1,s.2.1.1.2.2.2.2.1⟩:eC),s.2.1.1.2.2.2.2.2.1,(⟨s.2.1.1.2.2.2.2.2.2.1,s.2.1.1.2.2.2.2.2.2.2.1,s.2.1.1.2.2.2.2.2.2.2.2.1⟩:fH),s.2.1.1.2.2.2.2.2.2.2.2.2.1⟩:eh)).bind λy20=>br y20.1 ((eL s.1.1 0 4).bind λy21=>br y21.1 (iteP (0<=s.1.2.2.2.2.2.1/\s.1.2.2.2.2.2.1< (s.2.2.2.1.length:Int)) ((s.2.2.2.1[s.1.2.2.2.2.2.1.toNat]?).bind λx22=>iteP (0<=x22) ((s.2.1.1.2.1[x22.toNat]?).bind λx23=>let j28 (p27:List Int):sJ.R:=some (.inl ((s.1.1,(),(),(),s.1.2.2.2.2.1,(IntKind.wrap .i64 (s.1.2.2.2.2.2.1+1)),()),s.2.1,p27,s.2.2.2));br x23.up (br (x23.config.epoch==s.2.1.2.1.1) (iteP (0<=s.1.2.2.2.2.2.1/\s.1.2.2.2.2.2.1< (s.2.2.2.1.length:Int)) ((s.2.2.2.1[s.1.2.2.2.2.2.1.toNat]?).bind λx24=>(jc s.2.1.1.2.2.1 s.1.1 x24).bind λy25=>br y25.1 (iteP (0<=s.1.2.2.2.2.2.1/\s.1.2.2.2.2.2.1< (s.2.2.2.1.length:Int)) ((s.2.2.2.1[s.1.2.2.2.2.2.1.toNat]?).bind λx26=>iteP ((s.2.2.1++([x26]:List Int)).length*8<=2 ^ 40) (j28 (s.2.2.1++([x26]:List Int))) none) none) (j28 s.2.2.1)) none) (j28 s.2.2.1)) (j28 s.2.2.1)) none) none) (some (.inr (((),()),(()),s.2.2.1,())))) (some (.inr (((),()),(()),s.2.2.1,())))) (some (.inr (((),()),(()),s.2.2.1,())))) (some (.inr (((),()),(()),s.2.2.1,())))
def EG:=hO o9
def EH[eg] :=ky Tryz.f248 [0] sJ o9 [eM,fO,pR] [] (by kernel_rfl) λs=>by simp only[o9,tm];kernel_rfl
def pa(a0:eh)(a1:Int):Option ((List Int)×Unit):=
 (gg a0.master).bind λy1=>(EG ((a1,(),(),(),y1.2.1,0,()),((a0.now,a0.servers,a0.sides,a0.master.configs,a0.master.activated,a0.masterUp,a0.lease.epoch,a0.lease.holder,a0.lease.ends,a0.places,()),(y1.1.epoch,y1.1.primary,(),(),()),()),([]:List Int),y1.1.replicas,y1.1.witnesses,())).bind λe29=>some e29.2.2
def Ij[eg] :=fw 248 Tryz.f248 tc pG (λx=>pa x.1 x.2.1) [jd] [EH] (by kernel_rfl) λx=>by simp only[pa,tm];kernel_rfl
abbrev wT:LX:=⟨⟨[ut,so,NY,yf],[pH],lq,0,44⟩,[(.ext 0,⟨[so],[],[],0,44⟩)],[],[2,5,6,7],[5]⟩
def pb(s:Vz×(vw×Unit)×List Int×Unit):wT.R:=
 br (decide (s.1.2.2.2.1< (s.2.2.1.length:Int))) (br (decide (s.1.2.1<0)) (iteP (0<=s.1.2.2.2.1/\s.1.2.2.2.1< (s.2.2.1.length:Int)) ((s.2.2.1[s.1.2.2.2.1.toNat]?).bind λx15=>some (.inl (((),x15,(),(IntKind.wrap .i64 (s.1.2.2.2.1+1)),()),s.2))) none) (iteP (0<=s.1.2.2.2.1/\s.1.2.2.2.1< (s.2.2.1.length:Int)) ((s.2.2.1[s.1.2.2.2.1.toNat]?).bind λx16=>iteP (0<=x16) ((s.2.1.1.2.1[x16.toNat]?).bind λx17=>iteP (0<=s.1.2.1) ((s.2.1.1.2.1[s.1.2.1.toNat]?).bind λx18=>br (decide ((x17.log.length:Int)>(x18.log.length:Int))) (iteP (0<=s.1.2.2.2.1/\s.1.2.2.2.1< (s.2.2.1.length:Int)) ((s.2.2.1[s.1.2.2.2.1.toNat]?).bind λx19=>some (.inl (((),x19,(),(IntKind.wrap .i64 (s.1.2.2.2.1+1)),()),s.2))) none) (some (.inl (((),s.1.2.1,(),(IntKind.wrap .i64 (s.1.2.2.2.1+1)),()),s.2)))) none) none) none)) (some (.inr ((s.1.2.1,()),(()),(()))))
def EI:=hO pb
def EJ[eg] :=ky Tryz.f211 [0] wT pb [] [] (by kernel_rfl) λs=>by simp only[pb,tm];kernel_rfl
def pc(a0:eh)(a1:Int):Option (Int×Unit):=
 (pa a0 a1).bind λy1=>(EI (((),(-1),(),0,()),((a0.now,a0.servers,a0.sides,a0.master.configs,a0.master.activated,a0.masterUp,a0.lease.epoch,a0.lease.holder,a0.lease.ends,a0.places,()),()),y1.1,())).bind λe21=>some e21.1
def Ik[eg] :=fw 211 Tryz.f211 tc oI (λx=>pc x.1 x.2.1) [Ij] [EJ] (by kernel_rfl) λx=>by simp only[pc,tm];kernel_rfl
def uK(a0:eu)(a1:Int):Option ((List eA)×Unit):=
 (lS a0.config a1).bind λy1=>(iZ a0.learned).bind λy2=>br (y1.1==1) ((gf a0).bind λy3=>br (decide ((y3.1.length:Int)>(y2.1.length:Int))) (some (y3.1,())) (some (y2.1,()))) (br (y1.1==2) ((gf a0).bind λy4=>br (decide ((y4.1.length:Int)>(y2.1.length:Int))) (some (y4.1,())) (some (y2.1,()))) (some (y2.1,())))
def Pn[eg] :=fw 250 Tryz.f250 Mf Pd (λx=>uK x.1 x.2.1) [uB,nA,nT] [] (by kernel_rfl) λx=>by simp only[uK,tm];kernel_rfl
def uL(a0:Int)(a1:List eA):Option (Bool×Unit):=
 (hU a1).bind λy1=>br y1.1 (br (decide ((a1.length:Int)<=3)) ((eL a0 0 (IntKind.wrap .i64 (16-(a1.length:Int)))).bind λy2=>br y2.1 (br (a0==0) (some (true,())) (some (((a1.length:Int)==3),()))) (some (false,()))) (some (false,()))) (some (false,()))
def Po[eg] :=fw 268 Tryz.f268 Vl [.b] (λx=>uL x.1 x.2.1) [ry,fO] [] (by kernel_rfl) λx=>by simp only[uL,tm];kernel_rfl
abbrev uM:LX:=⟨⟨[wJ,RF,so],[],[],0,30⟩,[(.ext 0,⟨[so],[],[],0,30⟩)],[],[0,1,5],[5]⟩
def iQ(s:VA×Unit×Unit):uM.R:=
 br (decide (s.1.2.2.1< (s.1.1.length:Int))) (br (decide (s.1.2.2.1< (s.1.2.1.length:Int))) (iteP (0<=s.1.2.2.1) ((s.1.1[s.1.2.2.1.toNat]?).bind λx4=>iteP (0<=s.1.2.2.1) ((s.1.2.1[s.1.2.2.1.toNat]?).bind λx5=>br ((x4.epoch==x5.epoch)&&((x4.op.client==x5.op.client)&&((x4.op.seq==x5.op.seq)&&((x4.op.kind==x5.op.kind)&&((x4.op.object==x5.op.object)&&((x4.op.old==x5.op.old)&&((x4.op.value==x5.op.value)&&true))))))) (some (.inl ((s.1.1,s.1.2.1,(IntKind.wrap .i64 (s.1.2.2.1+1)),()),(()),(())))) (some (.inr (s.1.2.2,(()),(()))))) none) none) (some (.inr (s.1.2.2,(()),(()))))) (some (.inr (s.1.2.2,(()),(()))))
def pW:=hO iQ
def Bz[eg] :=ky Tryz.f127 [0] uM iQ [] [] (by kernel_rfl) λs=>by simp only[iQ,tm];kernel_rfl
def kX(a0:List eA)(a1:List eA):Option (Int×Unit):=
 (pW ((a0,a1,0,()),(()),(()))).bind λe6=>some e6.1
def EK[eg] :=fw 127 Tryz.f127 NV oI (λx=>kX x.1 x.2.1) [] [Bz] (by kernel_rfl) λx=>by simp only[kX,tm];kernel_rfl
def sK(a0:List eA)(a1:Int)(a2:List eA):Option ((List eA)×Bool×Unit):=
 (hU a0).bind λy1=>br (!y1.1) (some (([]:List eA),false,())) ((uL a1 a2).bind λy2=>br (!y2.1) (some (([]:List eA),false,())) (br (decide (a1>(a0.length:Int))) (some (([]:List eA),false,())) (iteP (0<=a1/\a1<=(a0.length:Int)/\(a0.length:Int)<=(a0.length:Int)) ((kX ((a0.drop a1.toNat).take ((a0.length:Int).toNat-a1.toNat)) a2).bind λy3=>br (decide (y3.1< (if (a2.length:Int)< (IntKind.wrap .i64 ((a0.length:Int)-a1)) then (a2.length:Int) else (IntKind.wrap .i64 ((a0.length:Int)-a1))))) (some (([]:List eA),false,())) ((iZ a0).bind λy4=>iteP (0<=y3.1/\y3.1<=(a2.length:Int)/\(a2.length:Int)<=(a2.length:Int)) (iteP ((y4.1++((a2.drop y3.1.toNat).take ((a2.length:Int).toNat-y3.1.toNat))).length*56<=2 ^ 40) ((hU (y4.1++((a2.drop y3.1.toNat).take ((a2.length:Int).toNat-y3.1.toNat)))).bind λy5=>br (!y5.1) (some (([]:List eA),false,())) (some ((y4.1++((a2.drop y3.1.toNat).take ((a2.length:Int).toNat-y3.1.toNat))),true,()))) none) none)) none)))
def Mt[eg] :=fw 249 Tryz.f249 [.ty (.ls (.st .entry)),.ty (.i .i64),.ty (.ls (.st .entry))] Rn (λx=>sK x.1 x.2.1 x.2.2.1) [ry,Po,EK,nA] [] (by kernel_rfl) λx=>by simp only[sK,tm];kernel_rfl
abbrev q8:LX:=⟨⟨[qX,ut,N0,Kw,RG,Cg,El,(11,.cl (.ptr 2 0)),vT],[pH,KC,VT],RK,0,121⟩,[(.ext 2,⟨[qX,ut,N0,Kw,RG,Cg,El],[pH,KC],RK,0,121⟩)],[],[1,2,6,7,8,9,10,11,12],[1,2,6,7,8,9,10]⟩
def nW(s: (Int×Unit×Unit×Bool×Unit×Bool×Int×Unit×Int×Unit)×(vw×H1×VB×Unit)×List eA×List Int×List Int×Unit):q8.R:=
 br (decide (s.1.2.2.2.2.2.2.2.2.1<5)) (iteP (0<=s.1.2.2.2.2.2.2.2.2.1) ((s.2.1.1.2.1[s.1.2.2.2.2.2.2.2.2.1.toNat]?).bind λx59=>let j66 (p64:List eA) (p65:Bool):q8.R:=some (.inl ((s.1.1,(),(),p65,(),s.1.2.2.2.2.2.1,s.1.2.2.2.2.2.2.1,(),(IntKind.wrap .i64 (s.1.2.2.2.2.2.2.2.2.1+1)),()),s.2.1,p64,s.2.2.2));br (!x59.up) (j66 s.2.2.1 s.1.2.2.2.1) ((jc s.2.1.1.2.2.1 s.1.1 s.1.2.2.2.2.2.2.2.2.1).bind λy60=>br (!y60.1) (j66 s.2.2.1 s.1.2.2.2.1) (iteP (0<=s.1.2.2.2.2.2.2.2.2.1) ((s.2.1.1.2.1[s.1.2.2.2.2.2.2.2.2.1.toNat]?).bind λx61=>(uK x61 s.1.2.2.2.2.2.2.2.2.1).bind λy62=>(sK y62.1 s.2.1.2.2.1.2.2.2.2.2.2.2.2.1 s.2.1.2.2.1.2.2.2.2.2.2.2.2.2.1).bind λy63=>br y63.2.1 (br (!s.1.2.2.2.1) (j66 y63.1 true) (br (decide ((y63.1.length:Int)>(s.2.2.1.length:Int))) (j66 y63.1 true) (j66 s.2.2.1 s.1.2.2.2.1))) (j66 s.2.2.1 s.1.2.2.2.1)) none))) none) (some (.inr ((s.1.1,(),(),s.1.2.2.2.1,(),s.1.2.2.2.2.2.1,s.1.2.2.2.2.2.2.1,()),(s.2.1.1,s.2.1.2.1,()),s.2.2)))
def v6:=hO nW
def CQ[eg] :=ky Tryz.f212 [0,0] q8 nW [pR,Pn,Mt] [] (by kernel_rfl) λs=>by simp only[nW,tm];kernel_rfl
abbrev wU:LX:=⟨⟨[qX,ut,N0,Kw,RG,Cg,El],[pH,KC],RK,0,121⟩,[(.ext 0,⟨[N0,Kw],[],[.st .entry],0,121⟩)],[],[1,2,6,7,8,9,10],[6,7]⟩
def pd(s: (Int×Unit×Unit×Bool×Unit×Bool×Int×Unit)×(vw×H1×Unit)×List eA×List Int×List Int×Unit):wU.R:=
 br (decide (s.1.2.2.2.2.2.2.1< (s.2.2.2.2.1.length:Int))) (br s.1.2.2.2.2.2.1 ((ew (⟨s.2.1.1.1,s.2.1.1.2.1,s.2.1.1.2.2.1,(⟨s.2.1.1.2.2.2.1,s.2.1.1.2.2.2.2.1⟩:eC),s.2.1.1.2.2.2.2.2.1,(⟨s.2.1.1.2.2.2.2.2.2.1,s.2.1.1.2.2.2.2.2.2.2.1,s.2.1.1.2.2.2.2.2.2.2.2.1⟩:fH),s.2.1.1.2.2.2.2.2.2.2.2.2.1⟩:eh)).bind λy21=>br y21.1 ((eL s.1.1 0 4).bind λy22=>br y22.1 (iteP (0<=s.1.2.2.2.2.2.2.1/\s.1.2.2.2.2.2.2.1< (s.2.2.2.2.1.length:Int)) ((s.2.2.2.2.1[s.1.2.2.2.2.2.2.1.toNat]?).bind λx23=>iteP (0<=x23) ((s.2.1.1.2.1[x23.toNat]?).bind λx24=>br (!x24.up) (some (.inl ((s.1.1,(),(),s.1.2.2.2.1,(),s.1.2.2.2.2.2.1,(IntKind.wrap .i64 (s.1.2.2.2.2.2.2.1+1)),()),s.2))) (br (!(x24.config.epoch==s.2.1.2.1.1)) (some (.inl ((s.1.1,(),(),s.1.2.2.2.1,(),s.1.2.2.2.2.2.1,(IntKind.wrap .i64 (s.1.2.2.2.2.2.2.1+1)),()),s.2))) (iteP (0<=s.1.2.2.2.2.2.2.1/\s.1.2.2.2.2.2.2.1< (s.2.2.2.2.1.length:Int)) ((s.2.2.2.2.1[s.1.2.2.2.2.2.2.1.toNat]?).bind λx25=>(jc s.2.1.1.2.2.1 s.1.1 x25).bind λy26=>br (!y26.1) (some (.inl ((s.1.1,(),(),s.1.2.2.2.1,(),s.1.2.2.2.2.2.1,(IntKind.wrap .i64 (s.1.2.2.2.2.2.2.1+1)),()),s.2))) ((v6 ((s.1.1,(),(),s.1.2.2.2.1,(),s.1.2.2.2.2.2.1,s.1.2.2.2.2.2.2.1,(),0,()),(s.2.1.1,s.2.1.2.1,(x24.up,x24.intact,x24.version,x24.epoch,x24.config.epoch,x24.config.primary,x24.config.replicas,x24.config.witnesses,x24.first,x24.log,x24.commit,x24.learned,()),()),s.2.2)).bind λe67=>some (.inl ((e67.1.1,(),(),e67.1.2.2.2.1,(),e67.1.2.2.2.2.2.1,(IntKind.wrap .i64 (e67.1.2.2.2.2.2.2.1+1)),()),e67.2)))) none))) none) none) (some (.inr (((),s.1.2.2.2.1,()),(()),s.2.2.1,())))) (some (.inr (((),s.1.2.2.2.1,()),(()),s.2.2.1,())))) (some (.inr (((),s.1.2.2.2.1,()),(()),s.2.2.1,())))) (some (.inr (((),s.1.2.2.2.1,()),(()),s.2.2.1,())))
def EL:=hO pd
def EM[eg] :=ky Tryz.f212 [0] wU pd [eM,fO,pR] [CQ] (by kernel_rfl) λs=>by simp only[pd,tm];kernel_rfl
def pe(a0:eh)(a1:Int):Option ((List eA)×Bool×Unit):=
 (gg a0.master).bind λy1=>(EL ((a1,(),(),false,(),y1.2.1,0,()),((a0.now,a0.servers,a0.sides,a0.master.configs,a0.master.activated,a0.masterUp,a0.lease.epoch,a0.lease.holder,a0.lease.ends,a0.places,()),(y1.1.epoch,y1.1.primary,(),(),()),()),([]:List eA),y1.1.replicas,y1.1.witnesses,())).bind λe87=>some (e87.2.2.1,e87.1.2)
def Il[eg] :=fw 212 Tryz.f212 tc Rn (λx=>pe x.1 x.2.1) [jd] [EM] (by kernel_rfl) λx=>by simp only[pe,tm];kernel_rfl
def qG(a0:eh)(a1:Int):Option ((List eA)×Bool×Unit):=
 (ew a0).bind λy1=>br (!y1.1) (some (([]:List eA),false,())) ((eL a1 0 4).bind λy2=>br (!y2.1) (some (([]:List eA),false,())) (br (a0.master.activated==0) (some (([]:List eA),true,())) ((pc a0 a1).bind λy3=>br (decide (y3.1≥0)) (iteP (0<=y3.1) ((a0.servers[y3.1.toNat]?).bind λx4=>(iZ x4.log).bind λy5=>some (y5.1,true,())) none) ((pe a0 a1).bind λy6=>some (y6.1,y6.2.1,())))))
def KN[eg] :=fw 118 Tryz.f118 tc Rn (λx=>qG x.1 x.2.1) [eM,fO,Ik,nA,Il] [] (by kernel_rfl) λx=>by simp only[qG,tm];kernel_rfl
abbrev uN:LX:=⟨⟨[wJ,vx],[],[],0,16⟩,[(.ret,⟨[tE],[],[],0,16⟩),(.ext 0,⟨[ye],[],[],0,16⟩)],[],[0,3],[2]⟩
def nf(s:Vu×Unit×Unit):uN.R:=
 br (decide (s.1.2.1< (s.1.1.length:Int))) (iteP (0<=s.1.2.1) ((s.1.1[s.1.2.1.toNat]?).bind λx3=>(kD x3.op).bind λy4=>br y4.1 (some (.inr (.inl ((true,()),(()),(()))))) (some (.inl ((s.1.1,(IntKind.wrap .i64 (s.1.2.1+1)),()),(()),(()))))) none) (some (.inr (.inr (((),()),(()),(())))))
def BA:=hO nf
def BB[eg] :=ky Tryz.f119 [0] uN nf [yC] [] (by kernel_rfl) λs=>by simp only[nf,tm];kernel_rfl
def jK(a0:List eA):Option (Bool×Unit):=
 (BA ((a0,0,()),(()),(()))).bind λe5=>Sum.elim (λe5_0=>some e5_0.1) (λ_=>some (false,())) e5
def sL[eg] :=fw 119 Tryz.f119 Bn [.b] (λx=>jK x.1) [] [BB] (by kernel_rfl) λx=>by simp only[jK,tm];kernel_rfl
def j3(a0:eu)(a1:ey)(a2:Int)(a3:List eA):Option (eu×Bool×Unit):=
 (lS a1 a2).bind λy1=>br (y1.1==0) ((jX a0).bind λy2=>some (y2.1,false,())) ((hU a3).bind λy3=>br (!y3.1) ((jX a0).bind λy4=>some (y4.1,false,())) ((eL a0.version 1 2).bind λy5=>br (!y5.1) ((jX a0).bind λy6=>some (y6.1,false,())) ((eL a0.epoch 0 a1.epoch).bind λy7=>br (!y7.1) ((jX a0).bind λy8=>some (y8.1,false,())) ((oA a3).bind λy9=>br (decide (y9.1>a1.epoch)) ((jX a0).bind λy10=>some (y10.1,false,())) (let j18:Option (eu×Bool×Unit):=(kQ a1).bind λy13=>(iZ a3).bind λy14=>br (y1.1==3) (iteP (0<=(if (IntKind.wrap .i64 ((a3.length:Int)-3))>0 then (IntKind.wrap .i64 ((a3.length:Int)-3)) else 0)/\(if (IntKind.wrap .i64 ((a3.length:Int)-3))>0 then (IntKind.wrap .i64 ((a3.length:Int)-3)) else 0)<=(a3.length:Int)/\(a3.length:Int)<=(a3.length:Int)) ((iZ ((a3.drop (if (IntKind.wrap .i64 ((a3.length:Int)-3))>0 then (IntKind.wrap .i64 ((a3.length:Int)-3)) else 0).toNat).take ((a3.length:Int).toNat-(if (IntKind.wrap .i64 ((a3.length:Int)-3))>0 then (IntKind.wrap .i64 ((a3.length:Int)-3)) else 0).toNat))).bind λy15=>some ((⟨a0.up,true,a0.version,a1.epoch,y13.1,(if (IntKind.wrap .i64 ((a3.length:Int)-3))>0 then (IntKind.wrap .i64 ((a3.length:Int)-3)) else 0),y15.1,(a3.length:Int),([]:List eA)⟩:eu),true,())) none) (some ((⟨a0.up,true,a0.version,a1.epoch,y13.1,0,y14.1,(a3.length:Int),([]:List eA)⟩:eu),true,()));br (a0.version==1) ((jK a3).bind λy11=>br y11.1 ((jX a0).bind λy12=>some (y12.1,false,())) (j18)) (j18))))))
def v7[eg] :=fw 120 Tryz.f120 [.ty (.st .server),.ty (.st .config),.ty (.i .i64),.ty (.ls (.st .entry))] [.st .server,.b] (λx=>j3 x.1 x.2.1 x.2.2.1 x.2.2.2.1) [uB,Bo,ry,fO,Bs,sL,wN,nA] [] (by kernel_rfl) λx=>by simp only[j3,tm];kernel_rfl
def jz(a0:eC)(a1:Int):Option (eC×Bool×Unit):=
 (pP a0).bind λy1=>(fW a0).bind λy2=>br (!y2.1) (some (y1.1,false,())) (br (!(a1==(a0.configs.length:Int))) (some (y1.1,false,())) (br (decide (a1<=a0.activated)) (some (y1.1,false,())) (some ((⟨y1.1.configs,a1⟩:eC),true,()))))
def uO[eg] :=fw 121 Tryz.f121 Rs [.st .masterLog,.b] (λx=>jz x.1 x.2.1) [Bp,qh] [] (by kernel_rfl) λx=>by simp only[jz,tm];kernel_rfl
abbrev yG:LX:=⟨⟨[od,uu,Ci,Cj,Em,Eo,El],[pH,td,H2,Ml],Mh,0,180⟩,[(.ret,⟨[od,uu,vx,Ci,Cj,Em,Eo],[pH,H2,H2,Ml],Mh,0,180⟩),(.ext 1,⟨[od,uu,(3,.cl (.dead)),Ci,Cj,Em,Eo],[pH,td,H2,Ml],Mh,0,180⟩)],[],[1,2,4,5,7,9,10],[1,2,3,4,5,7,9]⟩
def qk(s:RA×(vw×ur×ur×H1×Unit)×List eA×List Int×List eu×List Int×List ey×List fB×List Int×List Int×Unit):yG.R:=
 br (decide (s.1.2.2.2.2.2.2.1< (s.2.2.2.1.length:Int))) (iteP (0<=s.1.2.2.2.2.2.2.1/\s.1.2.2.2.2.2.2.1< (s.2.2.2.1.length:Int)) ((s.2.2.2.1[s.1.2.2.2.2.2.2.1.toNat]?).bind λx43=>iteP (0<=x43) ((s.2.1.1.2.1[x43.toNat]?).bind λx44=>br (!x44.up) (some (.inr (.inl (((),(),10,(),(),(),(),()),(s.2.1.1,s.2.1.2.2.1,s.2.1.2.2),s.2.2)))) (iteP (0<=s.1.2.2.2.2.2.2.1/\s.1.2.2.2.2.2.2.1< (s.2.2.2.1.length:Int)) ((s.2.2.2.1[s.1.2.2.2.2.2.2.1.toNat]?).bind λx45=>iteP (0<=x45) ((s.2.1.1.2.2.1[x45.toNat]?).bind λx46=>br (!(x46==0)) (some (.inr (.inl (((),(),10,(),(),(),(),()),(s.2.1.1,s.2.1.2.2.1,s.2.1.2.2),s.2.2)))) (some (.inl (((),(),(),(),(),(),(IntKind.wrap .i64 (s.1.2.2.2.2.2.2.1+1)),()),s.2)))) none) none)) none) none) (some (.inr (.inr (((),(),(),(),(),(),(),()),s.2))))
def FV:=hO qk
def FW[eg] :=ky Tryz.f34 [0] yG qk [] [] (by kernel_rfl) λs=>by simp only[qk,tm];kernel_rfl
abbrev t8:LX:=⟨⟨[od,uu,Ci,Cj,Em,Eo,GN],[pH,td,H2,Ml],Mh,0,180⟩,[(.ret,⟨[od,uu,vx,Ci,Cj,Em,Eo],[pH,H2,H2,Ml],Mh,0,180⟩),(.ext 3,⟨[od,uu,(3,.cl (.dead)),Ci,Cj,Em,Eo],[pH,td,H2,Ml],Mh,0,180⟩)],[],[1,2,4,5,7,9,11],[1,2,3,4,5,7,9]⟩
def qm(s:RA×(vw×ur×ur×H1×Unit)×List eA×List Int×List eu×List Int×List ey×List fB×List Int×List Int×Unit):t8.R:=
 br (decide (s.1.2.2.2.2.2.2.1< (s.2.2.2.1.length:Int))) (iteP (0<=s.1.2.2.2.2.2.2.1/\s.1.2.2.2.2.2.2.1< (s.2.2.2.1.length:Int)) ((s.2.2.2.1[s.1.2.2.2.2.2.2.1.toNat]?).bind λx81=>iteP (0<=x81) ((s.2.1.1.2.1[x81.toNat]?).bind λx82=>let j84:t8.R:=some (.inl (((),(),(),(),(),(),(IntKind.wrap .i64 (s.1.2.2.2.2.2.2.1+1)),()),s.2));br (x82.version==1) ((jK s.2.2.1).bind λy83=>br y83.1 (some (.inr (.inl (((),(),6,(),(),(),(),()),(s.2.1.1,s.2.1.2.2.1,s.2.1.2.2),s.2.2)))) (j84)) (j84)) none) none) (some (.inr (.inr (((),(),(),(),(),(),(),()),s.2))))
def yH:=hO qm
def FX[eg] :=ky Tryz.f34 [1] t8 qm [sL] [] (by kernel_rfl) λs=>by simp only[qm,tm];kernel_rfl
abbrev yI:LX:=⟨⟨[od,uu,Ci,Cj,Em,Eo,vT],[pH,td,H2,Ml],Mh,0,180⟩,[(.ext 5,⟨[od,uu,Ci,Cj],[pH,td,Mj,[.int .i64,.int .i64,.own 4 (.i .i64),.own 5 (.i .i64)]],[.st .server,.i .i64,.st .config,.st .place,.i .i64,.i .i64],0,180⟩)],[],[1,2,4,5,7,9,12],[1,2,4,5]⟩
def qn(s:RA×(vw×ur×ur×H1×Unit)×List eA×List Int×List eu×List Int×List ey×List fB×List Int×List Int×Unit):yI.R:=
 br (decide (s.1.2.2.2.2.2.2.1< (s.2.2.2.1.length:Int))) (iteP (0<=s.1.2.2.2.2.2.2.1/\s.1.2.2.2.2.2.2.1< (s.2.2.2.1.length:Int)) ((s.2.2.2.1[s.1.2.2.2.2.2.2.1.toNat]?).bind λx119=>iteP (0<=s.1.2.2.2.2.2.2.1/\s.1.2.2.2.2.2.2.1< (s.2.2.2.1.length:Int)) ((s.2.2.2.1[s.1.2.2.2.2.2.2.1.toNat]?).bind λx120=>iteP (0<=x120/\x120< (s.2.2.2.2.1.length:Int)) ((s.2.2.2.2.1[x120.toNat]?).bind λx121=>iteP (0<=s.1.2.2.2.2.2.2.1/\s.1.2.2.2.2.2.2.1< (s.2.2.2.1.length:Int)) ((s.2.2.2.1[s.1.2.2.2.2.2.2.1.toNat]?).bind λx122=>(s.2.2.2.2.1[x120.toNat]?).bind λx123=>iteP (0+x121.config.replicas.length<=x123.config.replicas.length) ((s.2.2.2.2.1[x120.toNat]?).bind λx124=>iteP (0+x121.config.witnesses.length<=x124.config.witnesses.length) ((s.2.2.2.2.1[x120.toNat]?).bind λx125=>iteP (0+x121.log.length<=x125.log.length) ((s.2.2.2.2.1[x120.toNat]?).bind λx126=>iteP (0+x121.learned.length<=x126.learned.length) ((j3 (⟨x121.up,x121.intact,x121.version,x121.epoch,(⟨x121.config.epoch,x121.config.primary,((x123.config.replicas.drop 0).take x121.config.replicas.length),((x124.config.witnesses.drop 0).take x121.config.witnesses.length)⟩:ey),x121.first,((x125.log.drop 0).take x121.log.length),x121.commit,((x126.learned.drop 0).take x121.learned.length)⟩:eu) (⟨s.2.1.2.2.2.1.1,s.2.1.2.2.2.1.2.1,s.2.2.2.2.2.2.2.2.1,s.2.2.2.2.2.2.2.2.2.1⟩:ey) x122 s.2.2.1).bind λy127=>iteP (0<=x119/\x119< (s.2.2.2.2.1.length:Int)) ((s.2.2.2.2.1[x119.toNat]?).bind λ_=>some (.inl (((),(),(),(),(),(),(IntKind.wrap .i64 (s.1.2.2.2.2.2.2.1+1)),()),s.2.1,s.2.2.1,s.2.2.2.1,(s.2.2.2.2.1.set x119.toNat y127.1),s.2.2.2.2.2))) none) none) none) none) none) none) none) none) none) (some (.inr (((),(),(),(),()),s.2.1,s.2.2.2.2)))
def yJ:=hO qn
def FY[eg] :=ky Tryz.f34 [2] yI qn [v7] [] (by kernel_rfl) λs=>by simp only[qn,tm];kernel_rfl
def of(a0:eh):Option (eh×Int×Unit):=
 (fA a0).bind λy1=>(rB a0.master).bind λy2=>(ew a0).bind λy3=>br (!y3.1) (some (y1.1,1,())) (br (!y2.2.1) (some (y1.1,1,())) (br (y2.1.epoch==a0.master.activated) (some (y1.1,1,())) (br (decide ((IntKind.wrap .i64 (a0.masterUp*2))<=3)) (some (y1.1,8,())) (iteP (0<=y2.1.primary) ((a0.servers[y2.1.primary.toNat]?).bind λx4=>br (!x4.up) (some (y1.1,2,())) (iteP (0<=y2.1.primary) ((a0.sides[y2.1.primary.toNat]?).bind λx5=>br (!(x5==0)) (some (y1.1,10,())) ((kE a0.lease a0.now).bind λy6=>br (!y6.1) (some (y1.1,7,())) ((nC a0 y2.1.primary y2.1.epoch).bind λy7=>(qG a0 y2.1.primary).bind λy8=>br (!y8.2.1) (some (y7.1,9,())) ((gF y2.1).bind λy9=>(FV (((),(),(),(),(),(),0,()),((a0.now,a0.servers,a0.sides,a0.master.configs,a0.master.activated,a0.masterUp,a0.lease.epoch,a0.lease.holder,a0.lease.ends,a0.places,()),(0,(),(),(),0,0,0,0,0,(),()),(y7.1.now,(),(),(),y7.1.master.activated,y7.1.masterUp,y7.1.lease.epoch,y7.1.lease.holder,y7.1.lease.ends,(),()),(y2.1.epoch,y2.1.primary,(),(),()),()),y8.1,y9.1,y7.1.servers,y7.1.sides,y7.1.master.configs,y7.1.places,y2.1.replicas,y2.1.witnesses,())).bind λe47=>Sum.elim (λe47_0=>some ((⟨e47_0.2.1.2.1.1,e47_0.2.2.2.2.1,e47_0.2.2.2.2.2.1,(⟨e47_0.2.2.2.2.2.2.1,e47_0.2.1.2.1.2.2.2.2.1⟩:eC),e47_0.2.1.2.1.2.2.2.2.2.1,(⟨e47_0.2.1.2.1.2.2.2.2.2.2.1,e47_0.2.1.2.1.2.2.2.2.2.2.2.1,e47_0.2.1.2.1.2.2.2.2.2.2.2.2.1⟩:fH),e47_0.2.2.2.2.2.2.2.1⟩:eh),e47_0.1.2.2.1,())) (λe47_1=>(yH (((),(),(),(),(),(),0,()),e47_1.2)).bind λe85=>Sum.elim (λe85_0=>some ((⟨e85_0.2.1.2.1.1,e85_0.2.2.2.2.1,e85_0.2.2.2.2.2.1,(⟨e85_0.2.2.2.2.2.2.1,e85_0.2.1.2.1.2.2.2.2.1⟩:eC),e85_0.2.1.2.1.2.2.2.2.2.1,(⟨e85_0.2.1.2.1.2.2.2.2.2.2.1,e85_0.2.1.2.1.2.2.2.2.2.2.2.1,e85_0.2.1.2.1.2.2.2.2.2.2.2.2.1⟩:fH),e85_0.2.2.2.2.2.2.2.1⟩:eh),e85_0.1.2.2.1,())) (λe85_1=>(yJ (((),(),(),(),(),(),0,()),e85_1.2)).bind λe130=>(jz (⟨e130.2.1.1.2.2.2.1,e130.2.1.1.2.2.2.2.1⟩:eC) e130.2.1.2.2.2.1.1).bind λy131=>some ((⟨e130.2.1.2.2.1.1,e130.2.2.1,e130.2.2.2.1,y131.1,e130.2.1.2.2.1.2.2.2.2.2.1,(⟨0,0,0⟩:fH),e130.2.2.2.2.2.1⟩:eh),0,())) e85) e47)))) none)) none))))
def zD[eg] :=fw 34 Tryz.f34 FI wj (λx=>of x.1) [gl,Ii,eM,yD,FU,KN,mF,uO] [FW,FX,FY] (by kernel_rfl) λx=>by simp only[of,tm];kernel_rfl
def l9(a0:eh)(a1:Int):Option (Bool×Unit):=
 (ew a0).bind λy1=>br y1.1 ((eL a1 0 4).bind λy2=>some (y2.1,())) (some (false,()))
def uP[eg] :=fw 307 Tryz.f307 tc [.b] (λx=>l9 x.1 x.2.1) [eM,fO] [] (by kernel_rfl) λx=>by simp only[l9,tm];kernel_rfl
def nD(a0:eh)(a1:Int):Option (eh×Int×Unit):=
 (fA a0).bind λy1=>(l9 a0 a1).bind λy2=>br (!y2.1) (some (y1.1,1,())) (iteP (0<=a1) ((a0.servers[a1.toNat]?).bind λx3=>br (!x3.up) (some (y1.1,2,())) (iteP (0<=a1/\a1< (y1.1.servers.length:Int)) ((y1.1.servers[a1.toNat]?).bind λx4=>some ((⟨y1.1.now,(y1.1.servers.set a1.toNat (⟨false,x4.intact,x4.version,x4.epoch,x4.config,x4.first,x4.log,x4.commit,x4.learned⟩:eu)),y1.1.sides,y1.1.master,y1.1.masterUp,y1.1.lease,y1.1.places⟩:eh),0,())) none)) none)
def FZ[eg] :=fw 291 Tryz.f291 tc wj (λx=>nD x.1 x.2.1) [gl,uP] [] (by kernel_rfl) λx=>by simp only[nD,tm];kernel_rfl
def lT(a0:eh)(a1:Int):Option (eh×Int×Unit):=
 (fA a0).bind λy1=>(l9 a0 a1).bind λy2=>br (!y2.1) (some (y1.1,1,())) (iteP (0<=a1) ((a0.servers[a1.toNat]?).bind λx3=>br x3.up (some (y1.1,1,())) (iteP (0<=a1/\a1< (y1.1.servers.length:Int)) ((y1.1.servers[a1.toNat]?).bind λx4=>some ((⟨y1.1.now,(y1.1.servers.set a1.toNat (⟨true,x4.intact,x4.version,x4.epoch,x4.config,x4.first,x4.log,x4.commit,x4.learned⟩:eu)),y1.1.sides,y1.1.master,y1.1.masterUp,y1.1.lease,y1.1.places⟩:eh),0,())) none)) none)
def CS[eg] :=fw 292 Tryz.f292 tc wj (λx=>lT x.1 x.2.1) [gl,uP] [] (by kernel_rfl) λx=>by simp only[lT,tm];kernel_rfl
def rC(a0:eu):Option (eu×Unit):=
 some ((⟨a0.up,false,a0.version,0,(⟨0,0,([]:List Int),([]:List Int)⟩:ey),0,([]:List eA),0,([]:List eA)⟩:eu),())
def Im[eg] :=fw 308 Tryz.f308 Kq Ui (λx=>rC x.1) [] [] (by kernel_rfl) λx=>by simp only[rC,tm];kernel_rfl
def sM(a0:eh)(a1:Int):Option (eh×Int×Unit):=
 (fA a0).bind λy1=>(l9 a0 a1).bind λy2=>br (!y2.1) (some (y1.1,1,())) (iteP (0<=a1) ((a0.servers[a1.toNat]?).bind λx3=>(rC x3).bind λy4=>iteP (0<=a1/\a1< (y1.1.servers.length:Int)) ((y1.1.servers[a1.toNat]?).bind λ_=>some ((⟨y1.1.now,(y1.1.servers.set a1.toNat y4.1),y1.1.sides,y1.1.master,y1.1.masterUp,y1.1.lease,y1.1.places⟩:eh),0,())) none) none)
def Mu[eg] :=fw 293 Tryz.f293 tc wj (λx=>sM x.1 x.2.1) [gl,uP,Im] [] (by kernel_rfl) λx=>by simp only[sM,tm];kernel_rfl
def sN(a0:List Int)(a1:Int)(a2:Int):Option ((List Int)×Bool×Unit):=
 iteP ((([]:List Int)++a0).length*8<=2 ^ 40) ((jH a0).bind λy1=>br (!y1.1) (some ((([]:List Int)++a0),false,())) ((eL a1 0 4).bind λy2=>br (!y2.1) (some ((([]:List Int)++a0),false,())) ((eL a2 0 3).bind λy3=>br (!y3.1) (some ((([]:List Int)++a0),false,())) (iteP (0<=a1/\a1< ((([]:List Int)++a0).length:Int)) (((([]:List Int)++a0)[a1.toNat]?).bind λ_=>some (((([]:List Int)++a0).set a1.toNat a2),true,())) none)))) none
def Mv[eg] :=fw 309 Tryz.f309 Vk [.ls (.i .i64),.b] (λx=>sN x.1 x.2.1 x.2.2.1) [vz,fO] [] (by kernel_rfl) λx=>by simp only[sN,tm];kernel_rfl
def pf(a0:eh)(a1:Int)(a2:Int):Option (eh×Int×Unit):=
 (fA a0).bind λy1=>(sN a0.sides a1 a2).bind λy2=>(ew a0).bind λy3=>br (!y3.1) (some (y1.1,1,())) (br (!y2.2.1) (some (y1.1,1,())) (some ((⟨y1.1.now,y1.1.servers,y2.1,y1.1.master,y1.1.masterUp,y1.1.lease,y1.1.places⟩:eh),0,())))
def Io[eg] :=fw 294 Tryz.f294 FJ wj (λx=>pf x.1 x.2.1 x.2.2.1) [gl,Mv,eM] [] (by kernel_rfl) λx=>by simp only[pf,tm];kernel_rfl
def pg(a0:eh)(a1:Int):Option (eh×Int×Unit):=
 (fA a0).bind λy1=>(ew a0).bind λy2=>br (!y2.1) (some (y1.1,1,())) ((eL a1 0 3).bind λy3=>br (!y3.1) (some (y1.1,1,())) (some ((⟨y1.1.now,y1.1.servers,y1.1.sides,y1.1.master,a1,y1.1.lease,y1.1.places⟩:eh),0,())))
def Ip[eg] :=fw 295 Tryz.f295 tc wj (λx=>pg x.1 x.2.1) [gl,eM,fO] [] (by kernel_rfl) λx=>by simp only[pg,tm];kernel_rfl
def pX(a0:eh)(a1:Int):Option (eh×Int×Unit):=
 (fA a0).bind λy1=>(ew a0).bind λy2=>br (!y2.1) (some (y1.1,1,())) ((eL a1 0 (IntKind.wrap .i64 (999-a0.now))).bind λy3=>br (!y3.1) (some (y1.1,1,())) (some ((⟨(IntKind.wrap .i64 (a0.now+a1)),y1.1.servers,y1.1.sides,y1.1.master,y1.1.masterUp,y1.1.lease,y1.1.places⟩:eh),0,())))
def EN[eg] :=fw 59 Tryz.f59 tc wj (λx=>pX x.1 x.2.1) [gl,eM,fO] [] (by kernel_rfl) λx=>by simp only[pX,tm];kernel_rfl
def qH(a0:eh)(a1:Int)(a2:Int):Option (Bool×Unit):=
 (ew a0).bind λy1=>br (!y1.1) (some (false,())) ((jc a0.sides a1 a2).bind λy2=>br (!y2.1) (some (false,())) (br (a1==a2) (some (false,())) (iteP (0<=a1) ((a0.servers[a1.toNat]?).bind λx3=>(lS x3.config a1).bind λy4=>br x3.up (iteP (0<=a2) ((a0.servers[a2.toNat]?).bind λx5=>br x5.up (br (y4.1==1) (br (x3.config.epoch==a0.master.activated) ((lS x3.config a2).bind λy6=>some ((y6.1==0),())) (some (false,()))) (br (y4.1==2) (br (x3.config.epoch==a0.master.activated) ((lS x3.config a2).bind λy7=>some ((y7.1==0),())) (some (false,()))) (some (false,())))) (some (false,()))) none) (some (false,()))) none)))
def KO[eg] :=fw 313 Tryz.f313 FJ [.b] (λx=>qH x.1 x.2.1 x.2.2.1) [eM,pR,uB] [] (by kernel_rfl) λx=>by simp only[qH,tm];kernel_rfl
abbrev t9:LX:=⟨⟨[(0,.cl (.int .i64)),N1,Ek],[],[],0,31⟩,[(.ext 0,⟨[N1,Ek],[],[],0,31⟩)],[],[0,3,4],[3,4]⟩
def qo(s: (Int×ByteArray×Bool×Unit)×Unit×Unit):t9.R:=
 br (!(s.1.1==0)) (let j5 (p4:Int):t9.R:=iteP (0< ([(IntKind.wrap .u8 (IntKind.wrap .i64 (48+p4)))]:List Int).length/\0+([(IntKind.wrap .u8 (IntKind.wrap .i64 (48+p4)))]:List Int).length<=([(IntKind.wrap .u8 (IntKind.wrap .i64 (48+p4)))]:List Int).length) (iteP ((Ov ((([(IntKind.wrap .u8 (IntKind.wrap .i64 (48+p4)))]:List Int).drop 0).take (([(IntKind.wrap .u8 (IntKind.wrap .i64 (48+p4)))]:List Int).length))).size+s.1.2.1.size<=2 ^ 40) (some (.inl (((IntKind.wrap .i64 (Int.tdiv s.1.1 10)),((Ov ((([(IntKind.wrap .u8 (IntKind.wrap .i64 (48+p4)))]:List Int).drop 0).take (([(IntKind.wrap .u8 (IntKind.wrap .i64 (48+p4)))]:List Int).length)))++s.1.2.1),s.1.2.2),(()),(())))) none) none;br (decide ((Int.tmod s.1.1 10)<0)) (j5 (IntKind.wrap .i64 (0-(Int.tmod s.1.1 10)))) (j5 (Int.tmod s.1.1 10))) (some (.inr (s.1.2,(()),(()))))
def F0:=hO qo
def F1[eg] :=ky Tryz.f320 [0] t9 qo [] [] (by kernel_rfl) λs=>by simp only[qo,tm];kernel_rfl
def iG(a0:Int):Option (ByteArray×Unit):=
 br (a0==0) (some ((⟨⟨[48]⟩⟩:ByteArray),())) ((F0 ((a0,ByteArray.empty,(decide (a0<0)),()),(()),(()))).bind λe6=>br e6.1.2.1 (iteP ((⟨⟨[45]⟩⟩:ByteArray).size+e6.1.1.size<=2 ^ 40) (some (((⟨⟨[45]⟩⟩:ByteArray)++e6.1.1),())) none) (some (e6.1.1,())))
def Cv[eg] :=fw 320 Tryz.f320 FH [.s] (λx=>iG x.1) [] [F1] (by kernel_rfl) λx=>by simp only[iG,tm];kernel_rfl
def sO(a0:Op):Option (ByteArray×Unit):=
 (fJ a0).bind λy1=>br (!y1.1) (some (ByteArray.empty,())) ((iG a0.client).bind λy2=>iteP (y2.1.size+(⟨⟨[46]⟩⟩:ByteArray).size<=2 ^ 40) ((iG a0.seq).bind λy3=>iteP ((y2.1++(⟨⟨[46]⟩⟩:ByteArray)).size+y3.1.size<=2 ^ 40) (iteP (((y2.1++(⟨⟨[46]⟩⟩:ByteArray))++y3.1).size+(⟨⟨[32]⟩⟩:ByteArray).size<=2 ^ 40) (br (a0.kind==1) (iteP ((((y2.1++(⟨⟨[46]⟩⟩:ByteArray))++y3.1)++(⟨⟨[32]⟩⟩:ByteArray)).size+(⟨⟨[119,114,105,116,101,32]⟩⟩:ByteArray).size<=2 ^ 40) ((iG a0.object).bind λy4=>iteP (((((y2.1++(⟨⟨[46]⟩⟩:ByteArray))++y3.1)++(⟨⟨[32]⟩⟩:ByteArray))++(⟨⟨[119,114,105,116,101,32]⟩⟩:ByteArray)).size+y4.1.size<=2 ^ 40) (iteP ((((((y2.1++(⟨⟨[46]⟩⟩:ByteArray))++y3.1)++(⟨⟨[32]⟩⟩:ByteArray))++(⟨⟨[119,114,105,116,101,32]⟩⟩:ByteArray))++y4.1).size+(⟨⟨[32]⟩⟩:ByteArray).size<=2 ^ 40) ((iG a0.value).bind λy5=>iteP (((((((y2.1++(⟨⟨[46]⟩⟩:ByteArray))++y3.1)++(⟨⟨[32]⟩⟩:ByteArray))++(⟨⟨[119,114,105,116,101,32]⟩⟩:ByteArray))++y4.1)++(⟨⟨[32]⟩⟩:ByteArray)).size+y5.1.size<=2 ^ 40) (some ((((((((y2.1++(⟨⟨[46]⟩⟩:ByteArray))++y3.1)++(⟨⟨[32]⟩⟩:ByteArray))++(⟨⟨[119,114,105,116,101,32]⟩⟩:ByteArray))++y4.1)++(⟨⟨[32]⟩⟩:ByteArray))++y5.1),())) none) none) none) none) (iteP ((((y2.1++(⟨⟨[46]⟩⟩:ByteArray))++y3.1)++(⟨⟨[32]⟩⟩:ByteArray)).size+(⟨⟨[115,119,97,112,32]⟩⟩:ByteArray).size<=2 ^ 40) ((iG a0.object).bind λy6=>iteP (((((y2.1++(⟨⟨[46]⟩⟩:ByteArray))++y3.1)++(⟨⟨[32]⟩⟩:ByteArray))++(⟨⟨[115,119,97,112,32]⟩⟩:ByteArray)).size+y6.1.size<=2 ^ 40) (iteP ((((((y2.1++(⟨⟨[46]⟩⟩:ByteArray))++y3.1)++(⟨⟨[32]⟩⟩:ByteArray))++(⟨⟨[115,119,97,112,32]⟩⟩:ByteArray))++y6.1).size+(⟨⟨[32]⟩⟩:ByteArray).size<=2 ^ 40) ((iG a0.old).bind λy7=>iteP (((((((y2.1++(⟨⟨[46]⟩⟩:ByteArray))++y3.1)++(⟨⟨[32]⟩⟩:ByteArray))++(⟨⟨[115,119,97,112,32]⟩⟩:ByteArray))++y6.1)++(⟨⟨[32]⟩⟩:ByteArray)).size+y7.1.size<=2 ^ 40) (iteP ((((((((y2.1++(⟨⟨[46]⟩⟩:ByteArray))++y3.1)++(⟨⟨[32]⟩⟩:ByteArray))++(⟨⟨[115,119,97,112,32]⟩⟩:ByteArray))++y6.1)++(⟨⟨[32]⟩⟩:ByteArray))++y7.1).size+(⟨⟨[32]⟩⟩:ByteArray).size<=2 ^ 40) ((iG a0.value).bind λy8=>iteP (((((((((y2.1++(⟨⟨[46]⟩⟩:ByteArray))++y3.1)++(⟨⟨[32]⟩⟩:ByteArray))++(⟨⟨[115,119,97,112,32]⟩⟩:ByteArray))++y6.1)++(⟨⟨[32]⟩⟩:ByteArray))++y7.1)++(⟨⟨[32]⟩⟩:ByteArray)).size+y8.1.size<=2 ^ 40) (some ((((((((((y2.1++(⟨⟨[46]⟩⟩:ByteArray))++y3.1)++(⟨⟨[32]⟩⟩:ByteArray))++(⟨⟨[115,119,97,112,32]⟩⟩:ByteArray))++y6.1)++(⟨⟨[32]⟩⟩:ByteArray))++y7.1)++(⟨⟨[32]⟩⟩:ByteArray))++y8.1),())) none) none) none) none) none) none)) none) none) none)
def Mw[eg] :=fw 321 Tryz.f321 Ks [.s] (λx=>sO x.1) [qD,Cv] [] (by kernel_rfl) λx=>by simp only[sO,tm];kernel_rfl
abbrev ua:LX:=⟨⟨[wJ,N1,tW],[],[],0,38⟩,[(.ext 0,⟨[N1],[],[],0,38⟩)],[],[0,3,4],[3]⟩
def qp(s: (List eA×ByteArray×Int×Unit)×Unit×Unit):ua.R:=
 br (decide (s.1.2.2.1< (s.1.1.length:Int))) (let j10 (p5:ByteArray):ua.R:=iteP (0<=s.1.2.2.1) ((s.1.1[s.1.2.2.1.toNat]?).bind λx6=>(iG x6.epoch).bind λy7=>iteP (p5.size+y7.1.size<=2 ^ 40) (iteP ((p5++y7.1).size+(⟨⟨[58]⟩⟩:ByteArray).size<=2 ^ 40) (iteP (0<=s.1.2.2.1) ((s.1.1[s.1.2.2.1.toNat]?).bind λx8=>(sO x8.op).bind λy9=>iteP (((p5++y7.1)++(⟨⟨[58]⟩⟩:ByteArray)).size+y9.1.size<=2 ^ 40) (some (.inl ((s.1.1,(((p5++y7.1)++(⟨⟨[58]⟩⟩:ByteArray))++y9.1),(IntKind.wrap .i64 (s.1.2.2.1+1)),()),(()),(())))) none) none) none) none) none;br (decide (s.1.2.2.1>0)) (iteP (s.1.2.1.size+(⟨⟨[59]⟩⟩:ByteArray).size<=2 ^ 40) (j10 (s.1.2.1++(⟨⟨[59]⟩⟩:ByteArray))) none) (j10 s.1.2.1)) (some (.inr ((s.1.2.1,()),(()),(()))))
def F2:=hO qp
def F3[eg] :=ky Tryz.f319 [0] ua qp [Cv,Mw] [] (by kernel_rfl) λs=>by simp only[qp,tm];kernel_rfl
def qI(a0:List eA):Option (ByteArray×Unit):=
 (hU a0).bind λy1=>br (!y1.1) (some (ByteArray.empty,())) (br ((a0.length:Int)==0) (some ((⟨⟨[110,111,110,101]⟩⟩:ByteArray),())) ((F2 ((a0,ByteArray.empty,0,()),(()),(()))).bind λe11=>some e11.1))
def KP[eg] :=fw 319 Tryz.f319 Bn [.s] (λx=>qI x.1) [ry] [F3] (by kernel_rfl) λx=>by simp only[qI,tm];kernel_rfl
abbrev Au:LX:=⟨⟨[(0,.cl (.str)),vx,tW],[],[],0,21⟩,[(.ext 0,⟨[vx],[],[],0,21⟩)],[],[0,3,4],[3]⟩
def rD(s: (ByteArray×Int×Int×Unit)×Unit×Unit):Au.R:=
 br (decide (s.1.2.2.1< (s.1.1.size:Int))) (iteP (0<=s.1.2.2.1) ((s.1.1[s.1.2.2.1.toNat]?).bind λx4=>some (.inl ((s.1.1,(Int.tmod (IntKind.wrap .i64 ((IntKind.wrap .i64 ((IntKind.wrap .i64 (s.1.2.1*257))+(IntKind.wrap .i64 (x4.toNat:Int))))+1)) 9949),(IntKind.wrap .i64 (s.1.2.2.1+1)),()),(()),(())))) none) (some (.inr ((s.1.2.1,()),(()),(()))))
def Iq:=hO rD
def Ir[eg] :=ky Tryz.f318 [0] Au rD [] [] (by kernel_rfl) λs=>by simp only[rD,tm];kernel_rfl
def sP(a0:ByteArray):Option (Int×Unit):=
 (Iq ((a0,5,0,()),(()),(()))).bind λe5=>some e5.1
def Mx[eg] :=fw 318 Tryz.f318 [.ty (.s)] oI (λx=>sP x.1) [] [Ir] (by kernel_rfl) λx=>by simp only[sP,tm];kernel_rfl
abbrev wV:LX:=⟨⟨[wJ,Ch,tW,so],[],lq,0,37⟩,[(.ext 0,⟨[Ch],[],lq,0,37⟩)],[],[0,3,4,5],[3]⟩
def ph(s: (List eA×Unit×Int×Int×Unit)×Unit×List Int×Unit):wV.R:=
 br (decide (s.1.2.2.2.1< (s.1.1.length:Int))) (iteP (0<=s.1.2.2.2.1/\s.1.2.2.2.1<=(IntKind.wrap .i64 (s.1.2.2.2.1+1))/\(IntKind.wrap .i64 (s.1.2.2.2.1+1))<=(s.1.1.length:Int)) ((qI ((s.1.1.drop s.1.2.2.2.1.toNat).take ((IntKind.wrap .i64 (s.1.2.2.2.1+1)).toNat-s.1.2.2.2.1.toNat))).bind λy6=>(sP y6.1).bind λy7=>iteP ((s.2.2.1++([(Int.tmod (IntKind.wrap .i64 ((IntKind.wrap .i64 (s.1.2.2.1*31))+y7.1)) 9973)]:List Int)).length*8<=2 ^ 40) (some (.inl ((s.1.1,(),(Int.tmod (IntKind.wrap .i64 ((IntKind.wrap .i64 (s.1.2.2.1*31))+y7.1)) 9973),(IntKind.wrap .i64 (s.1.2.2.2.1+1)),()),(()),(s.2.2.1++([(Int.tmod (IntKind.wrap .i64 ((IntKind.wrap .i64 (s.1.2.2.1*31))+y7.1)) 9973)]:List Int)),()))) none) none) (some (.inr (((),()),(()),s.2.2)))
def EO:=hO ph
def EP[eg] :=ky Tryz.f317 [0] wV ph [KP,Mx] [] (by kernel_rfl) λs=>by simp only[ph,tm];kernel_rfl
def pi(a0:List eA):Option ((List Int)×Unit):=
 (hU a0).bind λy1=>br (!y1.1) (some (([]:List Int),())) (iteP ((([]:List Int)++([11]:List Int)).length*8<=2 ^ 40) ((EO ((a0,(),11,0,()),(()),(([]:List Int)++([11]:List Int)),())).bind λe8=>some e8.2.2) none)
def It[eg] :=fw 317 Tryz.f317 Bn pG (λx=>pi x.1) [ry] [EP] (by kernel_rfl) λx=>by simp only[pi,tm];kernel_rfl
def pY(a0:List eA)(a1:Int):Option (Int×Unit):=
 (pi a0).bind λy1=>(eL a1 0 (IntKind.wrap .i64 ((y1.1.length:Int)-1))).bind λy2=>br (!y2.1) (some ((-1),())) (iteP (0<=a1/\a1< (y1.1.length:Int)) ((y1.1[a1.toNat]?).bind λx3=>some (x3,())) none)
def ES[eg] :=fw 316 Tryz.f316 Rx oI (λx=>pY x.1 x.2.1) [It,fO] [] (by kernel_rfl) λx=>by simp only[pY,tm];kernel_rfl
def nX(a0:eu):Option (Int×Unit):=
 (pY a0.learned (a0.learned.length:Int)).bind λy1=>some (y1.1,())
def CT[eg] :=fw 315 Tryz.f315 Kq oI (λx=>nX x.1) [ES] [] (by kernel_rfl) λx=>by simp only[nX,tm];kernel_rfl
def pj(a0:List eA)(a1:Int)(a2:Int):Option (Bool×Unit):=
 br (decide (a2≥0)) ((pY a0 a1).bind λy1=>some ((y1.1==a2),())) (some (false,()))
def ET[eg] :=fw 314 Tryz.f314 Rt [.b] (λx=>pj x.1 x.2.1 x.2.2.1) [ES] [] (by kernel_rfl) λx=>by simp only[pj,tm];kernel_rfl
def nE(a0:eh)(a1:Int)(a2:Int):Option (Int×Unit):=
 (qH a0 a1 a2).bind λy1=>br (!y1.1) (some ((-1),())) (iteP (0<=a1) ((a0.servers[a1.toNat]?).bind λx2=>(gf x2).bind λy3=>iteP (0<=a2) ((a0.servers[a2.toNat]?).bind λx4=>iteP (0<=a2) ((a0.servers[a2.toNat]?).bind λx5=>(nX x5).bind λy6=>(pj y3.1 (x4.learned.length:Int) y6.1).bind λy7=>br (!y7.1) (some ((IntKind.wrap .i64 ((y3.1.length:Int)-0)),())) (some ((IntKind.wrap .i64 ((y3.1.length:Int)-(x4.learned.length:Int))),()))) none) none) none)
def F4[eg] :=fw 310 Tryz.f310 FJ oI (λx=>nE x.1 x.2.1 x.2.2.1) [KO,nT,CT,ET] [] (by kernel_rfl) λx=>by simp only[nE,tm];kernel_rfl
def nF(a0:eh)(a1:Int)(a2:Int)(a3:Int):Option (eh×Int×Unit):=
 (fA a0).bind λy1=>(nE a0 a1 a2).bind λy2=>br (decide (y2.1<0)) (some (y1.1,0,())) ((eL a3 1 4).bind λy3=>br (!y3.1) (some (y1.1,0,())) (iteP (0<=a1) ((a0.servers[a1.toNat]?).bind λx4=>(gf x4).bind λy5=>iteP (0<=(0:Int)/\(0:Int)<=(IntKind.wrap .i64 ((IntKind.wrap .i64 ((y5.1.length:Int)-y2.1))+(if a3<y2.1 then a3 else y2.1)))/\(IntKind.wrap .i64 ((IntKind.wrap .i64 ((y5.1.length:Int)-y2.1))+(if a3<y2.1 then a3 else y2.1)))<=((y5.1.length:Nat):Int)) (iteP ((0+(0:Int).toNat)+((IntKind.wrap .i64 ((IntKind.wrap .i64 ((y5.1.length:Int)-y2.1))+(if a3<y2.1 then a3 else y2.1))).toNat-(0:Int).toNat)<=y5.1.length) ((iZ ((y5.1.drop (0+(0:Int).toNat)).take ((IntKind.wrap .i64 ((IntKind.wrap .i64 ((y5.1.length:Int)-y2.1))+(if a3<y2.1 then a3 else y2.1))).toNat-(0:Int).toNat))).bind λy6=>iteP (0<=a2/\a2< (y1.1.servers.length:Int)) ((y1.1.servers[a2.toNat]?).bind λx7=>some ((⟨y1.1.now,(y1.1.servers.set a2.toNat (⟨x7.up,x7.intact,x7.version,x7.epoch,x7.config,x7.first,x7.log,x7.commit,y6.1⟩:eu)),y1.1.sides,y1.1.master,y1.1.masterUp,y1.1.lease,y1.1.places⟩:eh),(if a3<y2.1 then a3 else y2.1),())) none) none) none) none))
def F5[eg] :=fw 296 Tryz.f296 [.ty (.st .cluster),.ty (.i .i64),.ty (.i .i64),.ty (.i .i64)] wj (λx=>nF x.1 x.2.1 x.2.2.1 x.2.2.2.1) [gl,F4,fO,nT,nA] [] (by kernel_rfl) λx=>by simp only[nF,tm];kernel_rfl
def lU(a0:eh)(a1:Int):Option (eh×Int×Unit):=
 (fA a0).bind λy1=>(l9 a0 a1).bind λy2=>br (!y2.1) (some (y1.1,1,())) (iteP (0<=a1) ((a0.servers[a1.toNat]?).bind λx3=>br (x3.version==2) (some (y1.1,1,())) (iteP (0<=a1) ((a0.servers[a1.toNat]?).bind λx4=>br (!x4.up) (some (y1.1,2,())) (iteP (0<=a1/\a1< (y1.1.servers.length:Int)) ((y1.1.servers[a1.toNat]?).bind λx5=>some ((⟨y1.1.now,(y1.1.servers.set a1.toNat (⟨x5.up,x5.intact,2,x5.epoch,x5.config,x5.first,x5.log,x5.commit,x5.learned⟩:eu)),y1.1.sides,y1.1.master,y1.1.masterUp,y1.1.lease,y1.1.places⟩:eh),0,())) none)) none)) none)
def CU[eg] :=fw 297 Tryz.f297 tc wj (λx=>lU x.1 x.2.1) [gl,uP] [] (by kernel_rfl) λx=>by simp only[lU,tm];kernel_rfl
def kY(a0:List eA):Option (Bool×Unit):=
 (jK a0).bind λy1=>some (y1.1,())
def wW[eg] :=fw 311 Tryz.f311 Bn [.b] (λx=>kY x.1) [sL] [] (by kernel_rfl) λx=>by simp only[kY,tm];kernel_rfl
abbrev mH:LX:=⟨⟨[qX,ut,yt,(6,.cl (.ptr 2 0)),Ku,yu],[pH,td,Mj,VT],RJ,0,80⟩,[(.ret,⟨[qX,uw,so,vU],[Mj,Mj],RJ,0,80⟩),(.ext 0,⟨[qX,uw,RC,vU],[td,Mj],RJ,0,80⟩)],[],[1,2,4,6,7,8],[1,4,5,6]⟩
def ko(s: (Int×Unit×Unit×Unit×Unit×Int×Unit)×(vw×ur×ur×VB×Unit)×List eu×List Int×List ey×List fB×Unit):mH.R:=
 br (decide (s.1.2.2.2.2.2.1< (s.2.1.1.2.1.length:Int))) ((l7 (⟨s.2.1.2.2.2.1.2.2.2.2.1,s.2.1.2.2.2.1.2.2.2.2.2.1,s.2.1.2.2.2.1.2.2.2.2.2.2.1,s.2.1.2.2.2.1.2.2.2.2.2.2.2.1⟩:ey)).bind λy47=>br (!y47.1) (iteP (0<=s.1.2.2.2.2.2.1) ((s.2.1.1.2.1[s.1.2.2.2.2.2.1.toNat]?).bind λx48=>(iu x48.config (⟨s.2.1.2.2.2.1.2.2.2.2.1,s.2.1.2.2.2.1.2.2.2.2.2.1,s.2.1.2.2.2.1.2.2.2.2.2.2.1,s.2.1.2.2.2.1.2.2.2.2.2.2.2.1⟩:ey)).bind λy49=>let j52:mH.R:=some (.inl ((s.1.1,(),(),(),(),(IntKind.wrap .i64 (s.1.2.2.2.2.2.1+1)),()),s.2));br y49.1 (iteP (0<=s.1.2.2.2.2.2.1) ((s.2.1.1.2.1[s.1.2.2.2.2.2.1.toNat]?).bind λx50=>(kY x50.log).bind λy51=>br y51.1 (some (.inr (.inl ((s.1.1,(),6,(),()),(s.2.1.2.2.1,s.2.1.2.2.1,()),s.2.2)))) (j52)) none) (j52)) none) (some (.inr (.inr ((s.1.1,(),(),(),()),(s.2.1.2.1,s.2.1.2.2.1,()),s.2.2))))) (some (.inr (.inr ((s.1.1,(),(),(),()),(s.2.1.2.1,s.2.1.2.2.1,()),s.2.2))))
def wX:=hO ko
def wY[eg] :=ky Tryz.f298 [0] mH ko [wW,xS,oY] [] (by kernel_rfl) λs=>by simp only[ko,tm];kernel_rfl
def kp(a0:eh)(a1:Int):Option (eh×Int×Unit):=
 (fA a0).bind λy1=>(l9 a0 a1).bind λy2=>br (!y2.1) (some (y1.1,1,())) (iteP (0<=a1) ((a0.servers[a1.toNat]?).bind λx3=>br (x3.version==1) (some (y1.1,1,())) (iteP (0<=a1) ((a0.servers[a1.toNat]?).bind λx4=>br (!x4.up) (some (y1.1,2,())) (iteP (0<=a1) ((a0.servers[a1.toNat]?).bind λx5=>(kY x5.learned).bind λy6=>br y6.1 (some (y1.1,6,())) ((wX ((a1,(),(),(),(),0,()),((a0.now,a0.servers,a0.sides,a0.master.configs,a0.master.activated,a0.masterUp,a0.lease.epoch,a0.lease.holder,a0.lease.ends,a0.places,()),(0,(),(),(),0,0,0,0,0,(),()),(y1.1.now,(),(),(),y1.1.master.activated,y1.1.masterUp,y1.1.lease.epoch,y1.1.lease.holder,y1.1.lease.ends,(),()),(x5.up,x5.intact,x5.version,x5.epoch,x5.config.epoch,x5.config.primary,x5.config.replicas,x5.config.witnesses,x5.first,x5.log,x5.commit,x5.learned,()),()),y1.1.servers,y1.1.sides,y1.1.master.configs,y1.1.places,())).bind λe53=>Sum.elim (λe53_0=>some ((⟨e53_0.2.1.1.1,e53_0.2.2.1,e53_0.2.2.2.1,(⟨e53_0.2.2.2.2.1,e53_0.2.1.1.2.2.2.2.1⟩:eC),e53_0.2.1.1.2.2.2.2.2.1,(⟨e53_0.2.1.1.2.2.2.2.2.2.1,e53_0.2.1.1.2.2.2.2.2.2.2.1,e53_0.2.1.1.2.2.2.2.2.2.2.2.1⟩:fH),e53_0.2.2.2.2.2.1⟩:eh),e53_0.1.2.2.1,())) (λe53_1=>iteP (0<=e53_1.1.1/\e53_1.1.1< (e53_1.2.2.1.length:Int)) ((e53_1.2.2.1[e53_1.1.1.toNat]?).bind λx54=>some ((⟨e53_1.2.1.2.1.1,(e53_1.2.2.1.set e53_1.1.1.toNat (⟨x54.up,x54.intact,1,x54.epoch,x54.config,x54.first,x54.log,x54.commit,x54.learned⟩:eu)),e53_1.2.2.2.1,(⟨e53_1.2.2.2.2.1,e53_1.2.1.2.1.2.2.2.2.1⟩:eC),e53_1.2.1.2.1.2.2.2.2.2.1,(⟨e53_1.2.1.2.1.2.2.2.2.2.2.1,e53_1.2.1.2.1.2.2.2.2.2.2.2.1,e53_1.2.1.2.1.2.2.2.2.2.2.2.2.1⟩:fH),e53_1.2.2.2.2.2.1⟩:eh),0,())) none) e53)) none)) none)) none)
def Av[eg] :=fw 298 Tryz.f298 tc wj (λx=>kp x.1 x.2.1) [gl,uP,wW] [wY] (by kernel_rfl) λx=>by simp only[kp,tm];kernel_rfl
abbrev sQ:LX:=⟨⟨[od,Cf,uv,tF],[pH,KC],VN,0,64⟩,[(.ret,⟨[Ah,Ai],[VU],WU,0,64⟩),(.ext 0,⟨[ye,Ai],[VU],WU,0,64⟩)],[],[1,3,5,6],[2,3]⟩
def lF(s:Um×(vw×H1×Unit)×List Int×List Int×List Int×Unit):sQ.R:=
 br (decide (s.1.2.2.2.1< (s.2.2.1.length:Int))) (iteP (0<=s.1.2.2.2.1/\s.1.2.2.2.1< (s.2.2.1.length:Int)) ((s.2.2.1[s.1.2.2.2.1.toNat]?).bind λx23=>(pS (⟨s.2.1.1.1,s.2.1.1.2.1,s.2.1.1.2.2.1,(⟨s.2.1.1.2.2.2.1,s.2.1.1.2.2.2.2.1⟩:eC),s.2.1.1.2.2.2.2.2.1,(⟨s.2.1.1.2.2.2.2.2.2.1,s.2.1.1.2.2.2.2.2.2.2.1,s.2.1.1.2.2.2.2.2.2.2.2.1⟩:fH),s.2.1.1.2.2.2.2.2.2.2.2.2.1⟩:eh) s.2.1.2.1.2.1 x23).bind λy24=>br (!y24.1) (some (.inr (.inl (((-1),(),()),s.2.1.2,s.2.2.2)))) (some (.inl (((),(),(),(IntKind.wrap .i64 (s.1.2.2.2.1+1)),()),s.2)))) none) (some (.inr (.inr (((),(),()),s.2.1.2,s.2.2.2))))
def zE:=hO lF
def zF[eg] :=ky Tryz.f15 [0] sQ lF [EA] [] (by kernel_rfl) λs=>by simp only[lF,tm];kernel_rfl
def kZ(a0:eh):Option (Int×Unit):=
 (gg a0.master).bind λy1=>(ew a0).bind λy2=>br (!y2.1) (some ((-1),())) (br (!y1.2.1) (some ((-1),())) (iteP (0<=y1.1.primary) ((a0.servers[y1.1.primary.toNat]?).bind λx3=>(gb x3 y1.1.primary).bind λy4=>br (!y4.1) (some ((-1),())) (iteP (0<=y1.1.primary) ((a0.servers[y1.1.primary.toNat]?).bind λx5=>br (!(x5.config.epoch==y1.1.epoch)) (some ((-1),())) ((gF y1.1).bind λy6=>(zE (((),(),(),0,()),((a0.now,a0.servers,a0.sides,a0.master.configs,a0.master.activated,a0.masterUp,a0.lease.epoch,a0.lease.holder,a0.lease.ends,a0.places,()),(y1.1.epoch,y1.1.primary,(),(),()),()),y6.1,y1.1.replicas,y1.1.witnesses,())).bind λe25=>Sum.elim (λe25_0=>some (e25_0.1.1,())) (λe25_1=>some (e25_1.2.1.1.2.1,())) e25)) none)) none))
def BC[eg] :=fw 15 Tryz.f15 FI oI (λx=>kZ x.1) [jd,eM,kT,mF] [zF] (by kernel_rfl) λx=>by simp only[kZ,tm];kernel_rfl
def oD(a0:eh):Option (Bool×Unit):=
 (kZ a0).bind λy1=>some ((decide (y1.1≥0)),())
def Cw[eg] :=fw 13 Tryz.f13 FI [.b] (λx=>oD x.1) [BC] [] (by kernel_rfl) λx=>by simp only[oD,tm];kernel_rfl
def qJ(a0:eh)(a1:Int):Option (Int×Unit):=
 (gg a0.master).bind λy1=>(ew a0).bind λy2=>br (!y2.1) (some (1,())) (br (!y1.2.1) (some (1,())) ((fI y1.1.replicas a1).bind λy3=>br (!y3.1) (some (1,())) (br (a1==y1.1.primary) (some (1,())) (br (!((a0.master.configs.length:Int)==y1.1.epoch)) (some (1,())) (br (y1.1.epoch==20) (some (1,())) (br (decide ((IntKind.wrap .i64 (a0.masterUp*2))<=3)) (some (8,())) ((oD a0).bind λy4=>br (!y4.1) (some (10,())) (iteP (0<=y1.1.primary) ((a0.sides[y1.1.primary.toNat]?).bind λx5=>br (!(x5==0)) (some (10,())) (br (decide (a0.lease.ends>0)) (br (!(a0.lease.holder==y1.1.primary)) (some (7,())) (some (0,()))) (some (0,())))) none))))))))
def KQ[eg] :=fw 25 Tryz.f25 tc oI (λx=>qJ x.1 x.2.1) [jd,eM,jr,Cw] [] (by kernel_rfl) λx=>by simp only[qJ,tm];kernel_rfl
def lV(a0:eh)(a1:Int):Option (eh×Int×Unit):=
 (fA a0).bind λy1=>(qJ a0 a1).bind λy2=>br (!(y2.1==0)) (some (y1.1,y2.1,())) ((gg a0.master).bind λy3=>(jY a0 y3.1.primary).bind λy4=>(kF (⟨y4.1.now,y4.1.servers,y4.1.sides,y4.1.master,y4.1.masterUp,(⟨0,0,0⟩:fH),y4.1.places⟩:eh) (⟨(IntKind.wrap .i64 (y3.1.epoch+1)),a1,y3.1.replicas,y3.1.witnesses⟩:ey)).bind λy5=>(of y5.1).bind λy6=>some (y6.1,y6.2.1,()))
def CV[eg] :=fw 23 Tryz.f23 tc wj (λx=>lV x.1 x.2.1) [gl,KQ,jd,vZ,t7,zD] [] (by kernel_rfl) λx=>by simp only[lV,tm];kernel_rfl
def nG(a0:eh)(a1:Int)(a2:Int):Option (eh×Int×Unit):=
 (fA a0).bind λy1=>(ew a0).bind λy2=>br (!y2.1) (some (y1.1,1,())) ((eL a2 1 50).bind λy3=>br (!y3.1) (some (y1.1,1,())) ((oD a0).bind λy4=>br y4.1 (some (y1.1,0,())) ((ne a0 a1 0).bind λy5=>br (!y5.2.1) (some (y1.1,10,())) ((kF a0 y5.1).bind λy6=>br (!(y6.2.1==0)) (some (y1.1,y6.2.1,())) ((pU a0.lease).bind λy7=>(pX y6.1 (if (IntKind.wrap .i64 (y7.1-a0.now))>0 then (IntKind.wrap .i64 (y7.1-a0.now)) else 0)).bind λy8=>br (!(y8.2.1==0)) (some (y1.1,y8.2.1,())) ((of y8.1).bind λy9=>br (!(y9.2.1==0)) (some (y9.1,y9.2.1,())) ((nc y9.1 y5.1.primary a2).bind λy10=>some (y10.1,y10.2.1,()))))))))
def F6[eg] :=fw 10 Tryz.f10 FJ wj (λx=>nG x.1 x.2.1 x.2.2.1) [gl,eM,fO,Cw,Aq,t7,EC,EN,zD,Ap] [] (by kernel_rfl) λx=>by simp only[nG,tm];kernel_rfl
def uQ(a0:eh)(a1:fS):Option (eh×Int×Unit):=
 let j28 (p17:Int) (p18:List eu) (p19:List Int) (p20:List ey) (p21:Int) (p22:Int) (p23:Int) (p24:Int) (p25:Int) (p26:List fB) (p27:Int):Option (eh×Int×Unit):=some ((⟨p17,p18,p19,(⟨p20,p21⟩:eC),p22,(⟨p23,p24,p25⟩:fH),p26⟩:eh),p27,());br (a1.kind==3) ((nc a0 a1.server a1.n).bind λy1=>j28 y1.1.now y1.1.servers y1.1.sides y1.1.master.configs y1.1.master.activated y1.1.masterUp y1.1.lease.epoch y1.1.lease.holder y1.1.lease.ends y1.1.places y1.2.1) (br (a1.kind==4) ((ne a0 a1.n a1.other).bind λy2=>br (!y2.2.1) ((fA a0).bind λy3=>some (y3.1,10,())) ((kF a0 y2.1).bind λy4=>j28 y4.1.now y4.1.servers y4.1.sides y4.1.master.configs y4.1.master.activated y4.1.masterUp y4.1.lease.epoch y4.1.lease.holder y4.1.lease.ends y4.1.places y4.2.1)) (br (a1.kind==5) ((of a0).bind λy5=>j28 y5.1.now y5.1.servers y5.1.sides y5.1.master.configs y5.1.master.activated y5.1.masterUp y5.1.lease.epoch y5.1.lease.holder y5.1.lease.ends y5.1.places y5.2.1) (br (a1.kind==6) ((nD a0 a1.server).bind λy6=>j28 y6.1.now y6.1.servers y6.1.sides y6.1.master.configs y6.1.master.activated y6.1.masterUp y6.1.lease.epoch y6.1.lease.holder y6.1.lease.ends y6.1.places y6.2.1) (br (a1.kind==7) ((lT a0 a1.server).bind λy7=>j28 y7.1.now y7.1.servers y7.1.sides y7.1.master.configs y7.1.master.activated y7.1.masterUp y7.1.lease.epoch y7.1.lease.holder y7.1.lease.ends y7.1.places y7.2.1) (br (a1.kind==8) ((sM a0 a1.server).bind λy8=>j28 y8.1.now y8.1.servers y8.1.sides y8.1.master.configs y8.1.master.activated y8.1.masterUp y8.1.lease.epoch y8.1.lease.holder y8.1.lease.ends y8.1.places y8.2.1) (br (a1.kind==9) ((pf a0 a1.server a1.n).bind λy9=>j28 y9.1.now y9.1.servers y9.1.sides y9.1.master.configs y9.1.master.activated y9.1.masterUp y9.1.lease.epoch y9.1.lease.holder y9.1.lease.ends y9.1.places y9.2.1) (br (a1.kind==10) ((pg a0 a1.n).bind λy10=>j28 y10.1.now y10.1.servers y10.1.sides y10.1.master.configs y10.1.master.activated y10.1.masterUp y10.1.lease.epoch y10.1.lease.holder y10.1.lease.ends y10.1.places y10.2.1) (br (a1.kind==11) ((pX a0 a1.n).bind λy11=>j28 y11.1.now y11.1.servers y11.1.sides y11.1.master.configs y11.1.master.activated y11.1.masterUp y11.1.lease.epoch y11.1.lease.holder y11.1.lease.ends y11.1.places y11.2.1) (br (a1.kind==12) ((nF a0 a1.server a1.other a1.n).bind λy12=>br (y12.2.1==0) (j28 y12.1.now y12.1.servers y12.1.sides y12.1.master.configs y12.1.master.activated y12.1.masterUp y12.1.lease.epoch y12.1.lease.holder y12.1.lease.ends y12.1.places 11) (j28 y12.1.now y12.1.servers y12.1.sides y12.1.master.configs y12.1.master.activated y12.1.masterUp y12.1.lease.epoch y12.1.lease.holder y12.1.lease.ends y12.1.places 0)) (br (a1.kind==13) ((lU a0 a1.server).bind λy13=>j28 y13.1.now y13.1.servers y13.1.sides y13.1.master.configs y13.1.master.activated y13.1.masterUp y13.1.lease.epoch y13.1.lease.holder y13.1.lease.ends y13.1.places y13.2.1) (br (a1.kind==14) ((kp a0 a1.server).bind λy14=>j28 y14.1.now y14.1.servers y14.1.sides y14.1.master.configs y14.1.master.activated y14.1.masterUp y14.1.lease.epoch y14.1.lease.holder y14.1.lease.ends y14.1.places y14.2.1) (br (a1.kind==15) ((lV a0 a1.server).bind λy15=>j28 y15.1.now y15.1.servers y15.1.sides y15.1.master.configs y15.1.master.activated y15.1.masterUp y15.1.lease.epoch y15.1.lease.holder y15.1.lease.ends y15.1.places y15.2.1) ((nG a0 a1.other a1.n).bind λy16=>j28 y16.1.now y16.1.servers y16.1.sides y16.1.master.configs y16.1.master.activated y16.1.masterUp y16.1.lease.epoch y16.1.lease.holder y16.1.lease.ends y16.1.places y16.2.1)))))))))))))
def Pp[eg] :=fw 273 Tryz.f273 Vm wj (λx=>uQ x.1 x.2.1) [Ap,Aq,gl,t7,zD,FZ,CS,Mu,Io,Ip,EN,F5,CU,Av,CV,F6] [] (by kernel_rfl) λx=>by simp only[uQ,tm];kernel_rfl
def sR(a0:eh)(a1:fS):Option (eh×lu×Unit):=
 (ew a0).bind λy1=>br (!y1.1) ((fA a0).bind λy2=>some (y2.1,(⟨1,(⟨false,0⟩:Result),0⟩:lu),())) ((mE a1).bind λy3=>br (!y3.1) ((fA a0).bind λy4=>some (y4.1,(⟨1,(⟨false,0⟩:Result),0⟩:lu),())) (br (a1.kind==1) ((sC a0 a1.server a1.op).bind λy5=>some (y5.1,y5.2.1,())) (br (a1.kind==2) ((fA a0).bind λy6=>(qE a0 a1.server a1.n).bind λy7=>some (y6.1,y7.1,())) ((uQ a0 a1).bind λy8=>some (y8.1,(⟨y8.2.1,(⟨false,0⟩:Result),0⟩:lu),())))))
def My[eg] :=fw 256 Tryz.f256 Vm Vg (λx=>sR x.1 x.2.1) [eM,gl,Ew,Mp,KJ,Pp] [] (by kernel_rfl) λx=>by simp only[sR,tm];kernel_rfl
abbrev yK:LX:=⟨⟨[(1,.cl (.ro (.st .event))),uw,vU,VJ,yu],[td,GQ],VO,0,40⟩,[(.ext 0,⟨[uw,vU,VJ],[td,GQ],VO,0,40⟩)],[],[1,4,6,7,8],[4,6,7]⟩
def qq(s: (List fS×Unit×Unit×Unit×Int×Unit)×(ur×ur×Unit)×List lu×List eu×List Int×List ey×List fB×Unit):yK.R:=
 br (decide (s.1.2.2.2.2.1< (s.1.1.length:Int))) (br (decide (s.1.2.2.2.2.1<60)) (iteP (0<=s.1.2.2.2.2.1) ((s.1.1[s.1.2.2.2.2.1.toNat]?).bind λx21=>(sR (⟨s.2.1.2.1.1,s.2.2.2.1,s.2.2.2.2.1,(⟨s.2.2.2.2.2.1,s.2.1.2.1.2.2.2.2.1⟩:eC),s.2.1.2.1.2.2.2.2.2.1,(⟨s.2.1.2.1.2.2.2.2.2.2.1,s.2.1.2.1.2.2.2.2.2.2.2.1,s.2.1.2.1.2.2.2.2.2.2.2.2.1⟩:fH),s.2.2.2.2.2.2.1⟩:eh) x21).bind λy22=>iteP ((s.2.2.1++([y22.2.1]:List lu)).length*32<=2 ^ 40) (some (.inl ((s.1.1,(),(),(),(IntKind.wrap .i64 (s.1.2.2.2.2.1+1)),()),(s.2.1.1,(y22.1.now,(),(),(),y22.1.master.activated,y22.1.masterUp,y22.1.lease.epoch,y22.1.lease.holder,y22.1.lease.ends,(),()),()),(s.2.2.1++([y22.2.1]:List lu)),y22.1.servers,y22.1.sides,y22.1.master.configs,y22.1.places,()))) none) none) (some (.inr (((),(),(),()),s.2)))) (some (.inr (((),(),(),()),s.2)))
def F7:=hO qq
def F8[eg] :=ky Tryz.f226 [0] yK qq [My] [] (by kernel_rfl) λs=>by simp only[qq,tm];kernel_rfl
def qK(a0:eh)(a1:List fS):Option (eh×(List lu)×Unit):=
 (fA a0).bind λy1=>(F7 ((a1,(),(),(),0,()),((0,(),(),(),0,0,0,0,0,(),()),(y1.1.now,(),(),(),y1.1.master.activated,y1.1.masterUp,y1.1.lease.epoch,y1.1.lease.holder,y1.1.lease.ends,(),()),()),([]:List lu),y1.1.servers,y1.1.sides,y1.1.master.configs,y1.1.places,())).bind λe23=>some ((⟨e23.2.1.2.1.1,e23.2.2.2.1,e23.2.2.2.2.1,(⟨e23.2.2.2.2.2.1,e23.2.1.2.1.2.2.2.2.1⟩:eC),e23.2.1.2.1.2.2.2.2.2.1,(⟨e23.2.1.2.1.2.2.2.2.2.2.1,e23.2.1.2.1.2.2.2.2.2.2.2.1,e23.2.1.2.1.2.2.2.2.2.2.2.2.1⟩:fH),e23.2.2.2.2.2.2.1⟩:eh),e23.2.2.1,())
def KR[eg] :=fw 226 Tryz.f226 [.ty (.st .cluster),.ty (.ls (.st .event))] [.st .cluster,.ls (.st .reply)] (λx=>qK x.1 x.2.1) [gl] [F8] (by kernel_rfl) λx=>by simp only[qK,tm];kernel_rfl
def pk[eg](a0:List gE):Option ((List gE)×eh×Unit):=
 (pO a0).bind λy1=>iteP (y1.1.length=a0.length) ((oW y1.2.1).bind λy2=>(qC y1.1 14).bind λy3=>iteP (y3.1.length=y1.1.length) ((qK y2.1 y3.2.1).bind λy4=>some (y3.1,y4.1,())) none) none
def Iu[eg] :=Db 146 Tryz.f146 (.st .cur) [] Pc (λl _=>pk l) [Ep,H7,KE,KR] [] (by kernel_rfl) λl x=>by simp only[pk,tm,-eq_self];kernel_rfl
abbrev Aw:LX:=⟨⟨[Ej,N2,tW],[],Us,1,17⟩,[(.ext 0,⟨[N2],[],Us,1,17⟩)],[],[0,3,4],[3]⟩
def pm[eg](s:Mg×Unit×List gE×List Int×Unit):Aw.R:=
 br (decide (s.1.2.2.1<5)) ((eT s.2.2.1 ([0,0,0,1,2]:List Int)).bind λy4=>iteP (y4.1.length=s.2.2.1.length) (iteP ((s.2.2.2.1++([y4.2.1]:List Int)).length*8<=2 ^ 40) (some (.inl (((),(),(IntKind.wrap .i64 (s.1.2.2.1+1)),()),(()),y4.1,(s.2.2.2.1++([y4.2.1]:List Int)),()))) none) none) (some (.inr (((),()),(()),s.2.2)))
def Ax[eg] :=hO pm
def Iv[eg] :=ky Tryz.f230 [0] Aw pm [gT] [] (by kernel_rfl) λs=>by simp only[pm,tm,-eq_self];kernel_rfl
def sS[eg](a0:List gE):Option ((List gE)×(List Int)×Unit):=
 (Ax (((),(),0,()),(()),a0,([]:List Int),())).bind λe5=>some e5.2.2
def Mz[eg] :=Db 230 Tryz.f230 (.st .cur) [] pG (λl _=>sS l) [] [Iv] (by kernel_rfl) λl x=>by simp only[sS,tm];kernel_rfl
def wZ[eg](a0:List gE):Option ((List gE)×(List Int)×Unit):=
 (sS a0).bind λy1=>iteP (y1.1.length=a0.length) ((eF y1.1 12).bind λy2=>iteP (y2.1.length=y1.1.length) (br (y2.2.1==0) (iteP (0<=(1:Int)/\(1:Int)<=(y1.2.1.length:Int)/\(y1.2.1.length:Int)<=((y1.2.1.length:Nat):Int)) (iteP ((0+(1:Int).toNat)=0/\((y1.2.1.length:Int).toNat-(1:Int).toNat)<=y1.2.1.length) (some (y2.1,(y1.2.1.take ((y1.2.1.length:Int).toNat-(1:Int).toNat)),())) (iteP ((0+(1:Int).toNat)+((y1.2.1.length:Int).toNat-(1:Int).toNat)<=y1.2.1.length) (some (y2.1,((y1.2.1.drop (0+(1:Int).toNat)).take ((y1.2.1.length:Int).toNat-(1:Int).toNat)),())) none)) none) (br (y2.2.1==1) ((eT y2.1 ([(-1),3,4]:List Int)).bind λy3=>iteP (y3.1.length=y2.1.length) (iteP (0<=(1:Int)/\(1:Int)< (y1.2.1.length:Int)) ((y1.2.1[(1:Int).toNat]?).bind λ_=>some (y3.1,(y1.2.1.set ((1:Int).toNat) y3.2.1),())) none) none) (some (y2.1,y1.2.1,())))) none) none
def RQ[eg] :=Db 147 Tryz.f147 (.st .cur) [] pG (λl _=>wZ l) [Mz,gA,gT] [] (by kernel_rfl) λl x=>by simp only[wZ,tm,-eq_self];kernel_rfl
abbrev EU:LX:=⟨⟨[Ej,N2,tW],[],Us,1,17⟩,[(.ext 0,⟨[N2],[],Us,1,17⟩)],[],[0,3,4],[3]⟩
def vB[eg](s:Mg×Unit×List gE×List Int×Unit):EU.R:=
 br (decide (s.1.2.2.1<5)) ((gQ s.2.2.1 2).bind λy4=>iteP (y4.1.length=s.2.2.1.length) (br y4.2.1 (iteP ((s.2.2.2.1++([s.1.2.2.1]:List Int)).length*8<=2 ^ 40) (some (.inl (((),(),(IntKind.wrap .i64 (s.1.2.2.1+1)),()),(()),y4.1,(s.2.2.2.1++([s.1.2.2.1]:List Int)),()))) none) (some (.inl (((),(),(IntKind.wrap .i64 (s.1.2.2.1+1)),()),(()),y4.1,s.2.2.2)))) none) (some (.inr (((),()),(()),s.2.2)))
def MA[eg] :=hO vB
def MB[eg] :=ky Tryz.f200 [0] EU vB [lQ] [] (by kernel_rfl) λs=>by simp only[vB,tm,-eq_self];kernel_rfl
def qL[eg](a0:List gE):Option ((List gE)×(List Int)×Unit):=
 (MA (((),(),0,()),(()),a0,([]:List Int),())).bind λe6=>some e6.2.2
def KS[eg] :=Db 200 Tryz.f200 (.st .cur) [] pG (λl _=>qL l) [] [MB] (by kernel_rfl) λl x=>by simp only[qL,tm];kernel_rfl
def og[eg](a0:List gE)(a1:Int):Option ((List gE)×ey×Unit):=
 (eF a0 5).bind λy1=>iteP (y1.1.length=a0.length) ((qL y1.1).bind λy2=>iteP (y2.1.length=y1.1.length) ((kM y2.2.1 y1.2.1).bind λy3=>let j9 (p4:List Int):Option ((List gE)×ey×Unit):=(gQ y2.1 2).bind λy5=>iteP (y5.1.length=y2.1.length) (br y5.2.1 ((qL y5.1).bind λy6=>iteP (y6.1.length=y5.1.length) ((gm y6.2.1 p4).bind λy7=>br (decide ((y7.1.length:Int)>0)) (iteP (0<=(0:Int)/\(0:Int)<=(1:Int)/\(1:Int)<=((y7.1.length:Nat):Int)) (iteP ((0+(0:Int).toNat)=0/\((1:Int).toNat-(0:Int).toNat)<=y7.1.length) (some (y6.1,(⟨a1,y1.2.1,p4,(y7.1.take ((1:Int).toNat-(0:Int).toNat))⟩:ey),())) (iteP ((0+(0:Int).toNat)+((1:Int).toNat-(0:Int).toNat)<=y7.1.length) (some (y6.1,(⟨a1,y1.2.1,p4,((y7.1.drop (0+(0:Int).toNat)).take ((1:Int).toNat-(0:Int).toNat))⟩:ey),())) none)) none) (some (y6.1,(⟨a1,y1.2.1,p4,([]:List Int)⟩:ey),()))) none) (some (y5.1,(⟨a1,y1.2.1,p4,([]:List Int)⟩:ey),()))) none;br (decide ((y3.1.length:Int)>3)) (j9 ([y1.2.1]:List Int)) (j9 y3.1)) none) none
def zG[eg] :=Db 105 Tryz.f105 (.st .cur) FH Uj (λl x=>og l x.1) [gA,KS,vA,lQ,pV] [] (by kernel_rfl) λl x=>by simp only[og,tm,-eq_self];kernel_rfl
abbrev EV:LX:=⟨⟨[Ej,ut,Cf,tW],[GO,VV],[.st .cur,.st .config],1,34⟩,[(.ext 0,⟨[ut,Cf],[GO,VV],[.st .cur,.st .config],1,34⟩)],[.b 1 0 (.st .config)],[0,2,3,4],[2,3]⟩
def vC[eg](s:Um×(Ei×Ei×Unit)×List gE×List ey×Unit):EV.R:=
 br (decide (s.1.2.2.2.1>0)) ((og s.2.2.1 (IntKind.wrap .i64 ((s.2.2.2.1.length:Int)+1))).bind λy17=>iteP (y17.1.length=s.2.2.1.length) ((jZ (⟨s.2.2.2.1,s.2.1.2.1.2.1⟩:eC) y17.2.1).bind λy18=>(gQ y17.1 2).bind λy19=>iteP (y19.1.length=y17.1.length) (br y19.2.1 ((jz y18.1 (y18.1.configs.length:Int)).bind λy20=>some (.inl (((),(),(),(IntKind.wrap .i64 (s.1.2.2.2.1-1)),()),(s.2.1.1,((),y20.1.activated,()),()),y19.1,y20.1.configs,()))) (some (.inl (((),(),(),(IntKind.wrap .i64 (s.1.2.2.2.1-1)),()),(s.2.1.1,((),y18.1.activated,()),()),y19.1,y18.1.configs,())))) none) none) (some (.inr (((),(),()),s.2)))
def MC[eg] :=hO vC
def MD[eg] :=ky Tryz.f231 [0] EV vC [zG,v5,lQ,uO] [] (by kernel_rfl) λs=>by simp only[vC,tm,-eq_self];kernel_rfl
def w4[eg](a0:List gE):Option ((List gE)×eC×Unit):=
 (eF a0 5).bind λy1=>iteP (y1.1.length=a0.length) ((MC (((),(),(),y1.2.1,()),(((),0,()),((),0,()),()),y1.1,([]:List ey),())).bind λe23=>some (e23.2.2.1,(⟨e23.2.2.2.1,e23.2.1.2.1.2.1⟩:eC),())) none
def RR[eg] :=Db 231 Tryz.f231 (.st .cur) [] Uk (λl _=>w4 l) [gA] [MD] (by kernel_rfl) λl x=>by simp only[w4,tm,-eq_self];kernel_rfl
def xU[eg](a0:List gE):Option ((List gE)×(List Int)×Unit):=
 (qL a0).bind λy1=>iteP (y1.1.length=a0.length) ((gQ y1.1 8).bind λy2=>iteP (y2.1.length=y1.1.length) (br y2.2.1 ((eT y2.1 ([(-1),0,4,5]:List Int)).bind λy3=>iteP (y3.1.length=y2.1.length) (iteP ((y1.2.1++([y3.2.1]:List Int)).length*8<=2 ^ 40) (some (y3.1,(y1.2.1++([y3.2.1]:List Int)),())) none) none) (some (y2.1,y1.2.1,()))) none) none
def Uv[eg] :=Db 251 Tryz.f251 (.st .cur) [] pG (λl _=>xU l) [KS,lQ,gT] [] (by kernel_rfl) λl x=>by simp only[xU,tm,-eq_self];kernel_rfl
def xV[eg](a0:List gE):Option ((List gE)×ey×Unit):=
 (eF a0 4).bind λy1=>iteP (y1.1.length=a0.length) ((og y1.1 (IntKind.wrap .i64 (1+y1.2.1))).bind λy2=>iteP (y2.1.length=y1.1.length) ((eF y2.1 14).bind λy3=>iteP (y3.1.length=y2.1.length) (br (y3.2.1==0) ((eT y3.1 ([0,20,21]:List Int)).bind λy4=>iteP (y4.1.length=y3.1.length) (some (y4.1,(⟨y4.2.1,y2.2.1.primary,y2.2.1.replicas,y2.2.1.witnesses⟩:ey),())) none) (br (y3.2.1==1) ((eF y3.1 7).bind λy5=>iteP (y5.1.length=y3.1.length) (some (y5.1,(⟨y2.2.1.epoch,(IntKind.wrap .i64 (y5.2.1-1)),y2.2.1.replicas,y2.2.1.witnesses⟩:ey),())) none) (br (y3.2.1==2) ((xU y3.1).bind λy6=>iteP (y6.1.length=y3.1.length) (some (y6.1,(⟨y2.2.1.epoch,y2.2.1.primary,y6.2.1,y2.2.1.witnesses⟩:ey),())) none) (br (y3.2.1==3) ((xU y3.1).bind λy7=>iteP (y7.1.length=y3.1.length) (some (y7.1,(⟨y2.2.1.epoch,y2.2.1.primary,y2.2.1.replicas,y7.2.1⟩:ey),())) none) (some (y3.1,y2.2.1,())))))) none) none) none
def N8[eg] :=Db 214 Tryz.f214 (.st .cur) [] Uj (λl _=>xV l) [gA,zG,gT,Uv] [] (by kernel_rfl) λl x=>by simp only[xV,tm,-eq_self];kernel_rfl
def w6[eg](a0:List gE):Option ((List gE)×eC×Unit):=
 (w4 a0).bind λy1=>iteP (y1.1.length=a0.length) ((eF y1.1 14).bind λy2=>iteP (y2.1.length=y1.1.length) (br (y2.2.1==0) ((eT y2.1 ([(-1),0,3,6]:List Int)).bind λy3=>iteP (y3.1.length=y2.1.length) (some (y3.1,(⟨y1.2.1.configs,y3.2.1⟩:eC),())) none) (br (y2.2.1==1) ((xV y2.1).bind λy4=>iteP (y4.1.length=y2.1.length) (iteP ((y1.2.1.configs++([y4.2.1]:List ey)).length*64<=2 ^ 40) (some (y4.1,(⟨(y1.2.1.configs++([y4.2.1]:List ey)),y1.2.1.activated⟩:eC),())) none) none) (some (y2.1,y1.2.1,())))) none) none
def RS[eg] :=Db 148 Tryz.f148 (.st .cur) [] Uk (λl _=>w6 l) [RR,gA,gT,N8] [] (by kernel_rfl) λl x=>by simp only[w6,tm,-eq_self];kernel_rfl
def w7[eg](a0:List gE):Option ((List gE)×fH×Unit):=
 (gQ a0 4).bind λy1=>iteP (y1.1.length=a0.length) (let j17 (p5:List gE) (p6:Int) (p7:Int) (p8:Int):Option ((List gE)×fH×Unit):=(eF p5 14).bind λy9=>iteP (y9.1.length=p5.length) (br (y9.2.1==0) ((eT y9.1 ([0,20,21]:List Int)).bind λy10=>iteP (y10.1.length=y9.1.length) (some (y10.1,(⟨y10.2.1,p7,p8⟩:fH),())) none) (br (y9.2.1==1) ((eT y9.1 ([(-1),4,5]:List Int)).bind λy11=>iteP (y11.1.length=y9.1.length) (some (y11.1,(⟨p6,y11.2.1,p8⟩:fH),())) none) (br (y9.2.1==2) ((eT y9.1 ([(-1),0,1049,1050]:List Int)).bind λy12=>iteP (y12.1.length=y9.1.length) (some (y12.1,(⟨p6,p7,y12.2.1⟩:fH),())) none) (some (y9.1,(⟨p6,p7,p8⟩:fH),()))))) none;br (!y1.2.1) ((eF y1.1 3).bind λy2=>iteP (y2.1.length=y1.1.length) ((eF y2.1 3).bind λy3=>iteP (y3.1.length=y2.1.length) ((eF y3.1 20).bind λy4=>iteP (y4.1.length=y3.1.length) (j17 y4.1 (IntKind.wrap .i64 (1+y2.2.1)) y3.2.1 (IntKind.wrap .i64 (1+y4.2.1))) none) none) none) (j17 y1.1 0 0 0)) none
def RT[eg] :=Db 149 Tryz.f149 (.st .cur) [] [.st .lease] (λl _=>w7 l) [lQ,gA,gT] [] (by kernel_rfl) λl x=>by simp only[w7,tm,-eq_self];kernel_rfl
def Ay[eg](a0:List gE):Option ((List gE)×(List fB)×Unit):=
 (pO a0).bind λy1=>iteP (y1.1.length=a0.length) ((eF y1.1 14).bind λy2=>iteP (y2.1.length=y1.1.length) (br (y2.2.1==0) (iteP (0<=(1:Int)/\(1:Int)<=(y1.2.1.length:Int)/\(y1.2.1.length:Int)<=((y1.2.1.length:Nat):Int)) (iteP ((0+(1:Int).toNat)=0/\((y1.2.1.length:Int).toNat-(1:Int).toNat)<=y1.2.1.length) (some (y2.1,(y1.2.1.take ((y1.2.1.length:Int).toNat-(1:Int).toNat)),())) (iteP ((0+(1:Int).toNat)+((y1.2.1.length:Int).toNat-(1:Int).toNat)<=y1.2.1.length) (some (y2.1,((y1.2.1.drop (0+(1:Int).toNat)).take ((y1.2.1.length:Int).toNat-(1:Int).toNat)),())) none)) none) (br (y2.2.1==1) ((eT y2.1 ([(-1),9,10]:List Int)).bind λy3=>iteP (y3.1.length=y2.1.length) (iteP (0<=(0:Int)/\(0:Int)< (y1.2.1.length:Int)) ((y1.2.1[(0:Int).toNat]?).bind λx4=>some (y3.1,(y1.2.1.set ((0:Int).toNat) (⟨y3.2.1,x4.capacity,x4.load⟩:fB)),())) none) none) (br (y2.2.1==2) ((eT y2.1 ([(-1),99,100]:List Int)).bind λy6=>iteP (y6.1.length=y2.1.length) (iteP (0<=(1:Int)/\(1:Int)< (y1.2.1.length:Int)) ((y1.2.1[(1:Int).toNat]?).bind λx7=>some (y6.1,(y1.2.1.set ((1:Int).toNat) (⟨x7.rack,x7.capacity,y6.2.1⟩:fB)),())) none) none) (some (y2.1,y1.2.1,()))))) none) none
def Uw[eg] :=Db 150 Tryz.f150 (.st .cur) [] [.ls (.st .place)] (λl _=>Ay l) [Ep,gA,gT] [] (by kernel_rfl) λl x=>by simp only[Ay,tm,-eq_self];kernel_rfl
abbrev GU:LX:=⟨⟨[Ej,N3,tW,so],[],Ut,1,27⟩,[(.ext 0,⟨[N3],[],Ut,1,27⟩)],[],[0,3,4,5],[3]⟩
def uR[eg](s: (Unit×Unit×Int×Int×Unit)×Unit×List gE×List eA×Unit):GU.R:=
 br (decide (s.1.2.2.2.1>0)) ((gQ s.2.2.1 3).bind λy6=>iteP (y6.1.length=s.2.2.1.length) (br y6.2.1 ((tY y6.1).bind λy9=>iteP (y9.1.length=y6.1.length) (iteP ((s.2.2.2.1++([(⟨(IntKind.wrap .i64 (s.1.2.2.1+1)),y9.2.1⟩:eA)]:List eA)).length*56<=2 ^ 40) (some (.inl (((),(),(IntKind.wrap .i64 (s.1.2.2.1+1)),(IntKind.wrap .i64 (s.1.2.2.2.1-1)),()),(()),y9.1,(s.2.2.2.1++([(⟨(IntKind.wrap .i64 (s.1.2.2.1+1)),y9.2.1⟩:eA)]:List eA)),()))) none) none) ((tY y6.1).bind λy10=>iteP (y10.1.length=y6.1.length) (iteP ((s.2.2.2.1++([(⟨s.1.2.2.1,y10.2.1⟩:eA)]:List eA)).length*56<=2 ^ 40) (some (.inl (((),(),s.1.2.2.1,(IntKind.wrap .i64 (s.1.2.2.2.1-1)),()),(()),y10.1,(s.2.2.2.1++([(⟨s.1.2.2.1,y10.2.1⟩:eA)]:List eA)),()))) none) none)) none) (some (.inr (((),()),(()),s.2.2)))
def GV[eg] :=hO uR
def Pq[eg] :=ky Tryz.f260 [0] GU uR [lQ,H8] [] (by kernel_rfl) λs=>by simp only[uR,tm,-eq_self];kernel_rfl
def xW[eg](a0:List gE):Option ((List gE)×(List eA)×Unit):=
 (eF a0 7).bind λy1=>iteP (y1.1.length=a0.length) ((GV (((),(),1,y1.2.1,()),(()),y1.1,([]:List eA),())).bind λe14=>some e14.2.2) none
def N9[eg] :=Db 260 Tryz.f260 (.st .cur) [] Pd (λl _=>xW l) [gA] [Pq] (by kernel_rfl) λl x=>by simp only[xW,tm,-eq_self];kernel_rfl
abbrev EW:LX:=⟨⟨[wJ,qX,so],[],[],0,25⟩,[(.ext 0,⟨[wJ,so],[],[],0,25⟩)],[],[0,1,5],[0,5]⟩
def vD(s: (List eA×Int×Int×Unit)×Unit×Unit):EW.R:=
 br (decide (s.1.2.2.1< (s.1.1.length:Int))) (iteP (0<=s.1.2.2.1) ((s.1.1[s.1.2.2.1.toNat]?).bind λx4=>br (decide (x4.epoch<=s.1.2.1)) (some (.inl ((s.1.1,s.1.2.1,(IntKind.wrap .i64 (s.1.2.2.1+1)),()),(()),(())))) (some (.inr ((s.1.1,s.1.2.2),(()),(()))))) none) (some (.inr ((s.1.1,s.1.2.2),(()),(()))))
def ME:=hO vD
def MF[eg] :=ky Tryz.f259 [0] EW vD [] [] (by kernel_rfl) λs=>by simp only[vD,tm];kernel_rfl
def w8(a0:List eA)(a1:Int):Option ((List eA)×Unit):=
 (ME ((a0,a1,0,()),(()),(()))).bind λe5=>iteP (0<=(0:Int)/\(0:Int)<=e5.1.2.1/\e5.1.2.1<=(e5.1.1.length:Int)) ((iZ ((e5.1.1.drop (0:Int).toNat).take (e5.1.2.1.toNat-(0:Int).toNat))).bind λy6=>some (y6.1,())) none
def RU[eg] :=fw 259 Tryz.f259 Rx Pd (λx=>w8 x.1 x.2.1) [nA] [MF] (by kernel_rfl) λx=>by simp only[w8,tm];kernel_rfl
def qM[eg](a0:List gE):Option ((List gE)×eu×Int×Unit):=
 (eF a0 2).bind λy1=>iteP (y1.1.length=a0.length) ((ox (IntKind.wrap .i64 (1+y1.2.1))).bind λy2=>(eF y1.1 3).bind λy3=>iteP (y3.1.length=y1.1.length) ((og y3.1 (IntKind.wrap .i64 (1+y3.2.1))).bind λy4=>iteP (y4.1.length=y3.1.length) ((gF y4.2.1).bind λy5=>(eF y4.1 (y5.1.length:Int)).bind λy6=>iteP (y6.1.length=y4.1.length) (iteP (0<=y6.2.1/\y6.2.1< (y5.1.length:Int)) ((y5.1[y6.2.1.toNat]?).bind λx7=>(gQ y6.1 5).bind λy8=>iteP (y8.1.length=y6.1.length) (br (!y8.2.1) ((xW y8.1).bind λy9=>iteP (y9.1.length=y8.1.length) ((w8 y9.2.1 y4.2.1.epoch).bind λy10=>(j3 y2.1 y4.2.1 x7 y10.1).bind λy11=>(gQ y9.1 4).bind λy44=>iteP (y44.1.length=y9.1.length) (let j62 (p45:Bool):Option ((List gE)×eu×Int×Unit):=(gQ y44.1 4).bind λy46=>iteP (y46.1.length=y44.1.length) (br y46.2.1 ((eF y46.1 3).bind λy47=>iteP (y47.1.length=y46.1.length) ((km (⟨p45,y11.1.intact,y11.1.version,y11.1.epoch,y11.1.config,y11.1.first,y11.1.log,y11.1.commit,y11.1.learned⟩:eu) (IntKind.wrap .i64 (4+y47.2.1))).bind λy48=>some (y47.1,y48.1,x7,())) none) (some (y46.1,(⟨p45,y11.1.intact,y11.1.version,y11.1.epoch,y11.1.config,y11.1.first,y11.1.log,y11.1.commit,y11.1.learned⟩:eu),x7,()))) none;br y44.2.1 (j62 false) (j62 y11.1.up)) none) none) ((gQ y8.1 4).bind λy63=>iteP (y63.1.length=y8.1.length) (let j81 (p64:Bool):Option ((List gE)×eu×Int×Unit):=(gQ y63.1 4).bind λy65=>iteP (y65.1.length=y63.1.length) (br y65.2.1 ((eF y65.1 3).bind λy66=>iteP (y66.1.length=y65.1.length) ((km (⟨p64,y2.1.intact,y2.1.version,y2.1.epoch,y2.1.config,y2.1.first,y2.1.log,y2.1.commit,y2.1.learned⟩:eu) (IntKind.wrap .i64 (4+y66.2.1))).bind λy67=>some (y66.1,y67.1,x7,())) none) (some (y65.1,(⟨p64,y2.1.intact,y2.1.version,y2.1.epoch,y2.1.config,y2.1.first,y2.1.log,y2.1.commit,y2.1.learned⟩:eu),x7,()))) none;br y63.2.1 (j81 false) (j81 y2.1.up)) none)) none) none) none) none) none) none
def KT[eg] :=Db 232 Tryz.f232 (.st .cur) [] [.st .server,.i .i64] (λl _=>qM l) [gA,Ck,zG,mF,lQ,N9,RU,v7,Ar] [] (by kernel_rfl) λl x=>by simp only[qM,tm,-eq_self];kernel_rfl
def xX[eg](a0:List gE):Option ((List gE)×Op×Unit):=
 (tY a0).bind λy1=>iteP (y1.1.length=a0.length) ((eF y1.1 14).bind λy2=>iteP (y2.1.length=y1.1.length) (br (y2.2.1==0) ((eT y2.1 ([(-1),2,3]:List Int)).bind λy3=>iteP (y3.1.length=y2.1.length) (some (y3.1,(⟨y3.2.1,y1.2.1.seq,y1.2.1.kind,y1.2.1.object,y1.2.1.old,y1.2.1.value⟩:Op),())) none) (br (y2.2.1==1) ((eT y2.1 ([0,99,100]:List Int)).bind λy4=>iteP (y4.1.length=y2.1.length) (some (y4.1,(⟨y1.2.1.client,y4.2.1,y1.2.1.kind,y1.2.1.object,y1.2.1.old,y1.2.1.value⟩:Op),())) none) (br (y2.2.1==2) ((eF y2.1 4).bind λy5=>iteP (y5.1.length=y2.1.length) (some (y5.1,(⟨y1.2.1.client,y1.2.1.seq,y5.2.1,y1.2.1.object,y1.2.1.old,y1.2.1.value⟩:Op),())) none) (br (y2.2.1==3) ((eT y2.1 ([(-1),3]:List Int)).bind λy6=>iteP (y6.1.length=y2.1.length) (some (y6.1,(⟨y1.2.1.client,y1.2.1.seq,y1.2.1.kind,y6.2.1,y1.2.1.old,y1.2.1.value⟩:Op),())) none) (br (y2.2.1==4) ((eT y2.1 ([(-1),9,10]:List Int)).bind λy7=>iteP (y7.1.length=y2.1.length) (some (y7.1,(⟨y1.2.1.client,y1.2.1.seq,y1.2.1.kind,y1.2.1.object,y1.2.1.old,y7.2.1⟩:Op),())) none) (br (y2.2.1==5) ((eT y2.1 ([(-1),0,9,10]:List Int)).bind λy8=>iteP (y8.1.length=y2.1.length) (some (y8.1,(⟨y1.2.1.client,y1.2.1.seq,y1.2.1.kind,y1.2.1.object,y8.2.1,y1.2.1.value⟩:Op),())) none) (some (y2.1,y1.2.1,())))))))) none) none
def Oa[eg] :=Db 131 Tryz.f131 (.st .cur) [] [.st .op] (λl _=>xX l) [H8,gA,gT] [] (by kernel_rfl) λl x=>by simp only[xX,tm,-eq_self];kernel_rfl
abbrev GW:LX:=⟨⟨[Ej,N3],[],Ut,1,33⟩,[(.ext 1,⟨[N3],[],Ut,1,33⟩)],[],[0,3],[3]⟩
def rM[eg](s:H0×Unit×List gE×List eA×Unit):GW.R:=
 br (decide ((s.2.2.2.1.length:Int)<17)) ((tY s.2.2.1).bind λy7=>iteP (y7.1.length=s.2.2.1.length) (iteP ((s.2.2.2.1++([(⟨20,y7.2.1⟩:eA)]:List eA)).length*56<=2 ^ 40) (some (.inl (((),(),()),(()),y7.1,(s.2.2.2.1++([(⟨20,y7.2.1⟩:eA)]:List eA)),()))) none) none) (some (.inr (((),()),(()),s.2.2)))
def GX[eg] :=hO rM
def Pr[eg] :=ky Tryz.f233 [0] GW rM [H8] [] (by kernel_rfl) λs=>by simp only[rM,tm,-eq_self];kernel_rfl
def Az[eg](a0:List gE):Option ((List gE)×(List eA)×Unit):=
 (xW a0).bind λy1=>iteP (y1.1.length=a0.length) ((eF y1.1 14).bind λy2=>iteP (y2.1.length=y1.1.length) (br (y2.2.1==0) ((eT y2.1 ([0,1,20,21]:List Int)).bind λy3=>iteP (y3.1.length=y2.1.length) ((xX y3.1).bind λy4=>iteP (y4.1.length=y3.1.length) (iteP ((y1.2.1++([(⟨y3.2.1,y4.2.1⟩:eA)]:List eA)).length*56<=2 ^ 40) (some (y4.1,(y1.2.1++([(⟨y3.2.1,y4.2.1⟩:eA)]:List eA)),())) none) none) none) (br (y2.2.1==1) ((GX (((),(),()),(()),y2.1,y1.2.1,())).bind λe8=>some e8.2.2) (some (y2.1,y1.2.1,())))) none) none
def Ux[eg] :=Db 233 Tryz.f233 (.st .cur) [] Pd (λl _=>Az l) [N9,gA,gT,Oa] [Pr] (by kernel_rfl) λl x=>by simp only[Az,tm,-eq_self];kernel_rfl
def w9[eg](a0:List gE):Option ((List gE)×eu×Int×Unit):=
 (qM a0).bind λy1=>iteP (y1.1.length=a0.length) ((eF y1.1 16).bind λy2=>iteP (y2.1.length=y1.1.length) (let j21 (p10:List gE) (p11:Int) (p12:Int) (p13:Int) (p14:Int) (p15:List Int) (p16:List Int) (p17:Int) (p18:List eA) (p19:Int) (p20:Int):Option ((List gE)×eu×Int×Unit):=some (p10,(⟨y1.2.1.up,y1.2.1.intact,p11,p12,(⟨p13,p14,p15,p16⟩:ey),p17,p18,p19,y1.2.1.learned⟩:eu),p20,());br (y2.2.1==0) ((eT y2.1 ([0,1,3]:List Int)).bind λy3=>iteP (y3.1.length=y2.1.length) (j21 y3.1 y3.2.1 y1.2.1.epoch y1.2.1.config.epoch y1.2.1.config.primary y1.2.1.config.replicas y1.2.1.config.witnesses y1.2.1.first y1.2.1.log y1.2.1.commit y1.2.2.1) none) (br (y2.2.1==1) ((eT y2.1 ([(-1),0,20,21]:List Int)).bind λy4=>iteP (y4.1.length=y2.1.length) (j21 y4.1 y1.2.1.version y4.2.1 y1.2.1.config.epoch y1.2.1.config.primary y1.2.1.config.replicas y1.2.1.config.witnesses y1.2.1.first y1.2.1.log y1.2.1.commit y1.2.2.1) none) (br (y2.2.1==2) ((xV y2.1).bind λy5=>iteP (y5.1.length=y2.1.length) (j21 y5.1 y1.2.1.version y1.2.1.epoch y5.2.1.epoch y5.2.1.primary y5.2.1.replicas y5.2.1.witnesses y1.2.1.first y1.2.1.log y1.2.1.commit y1.2.2.1) none) (br (y2.2.1==3) ((eT y2.1 ([(-1),0,2,17]:List Int)).bind λy6=>iteP (y6.1.length=y2.1.length) (j21 y6.1 y1.2.1.version y1.2.1.epoch y1.2.1.config.epoch y1.2.1.config.primary y1.2.1.config.replicas y1.2.1.config.witnesses y1.2.1.first y1.2.1.log y6.2.1 y1.2.2.1) none) (br (y2.2.1==4) ((eT y2.1 ([(-1),0,2,9223372036854775807]:List Int)).bind λy7=>iteP (y7.1.length=y2.1.length) (j21 y7.1 y1.2.1.version y1.2.1.epoch y1.2.1.config.epoch y1.2.1.config.primary y1.2.1.config.replicas y1.2.1.config.witnesses y7.2.1 y1.2.1.log y1.2.1.commit y1.2.2.1) none) (br (y2.2.1==5) ((eF y2.1 7).bind λy8=>iteP (y8.1.length=y2.1.length) (j21 y8.1 y1.2.1.version y1.2.1.epoch y1.2.1.config.epoch y1.2.1.config.primary y1.2.1.config.replicas y1.2.1.config.witnesses y1.2.1.first y1.2.1.log y1.2.1.commit (IntKind.wrap .i64 (y8.2.1-1))) none) (br (y2.2.1==6) ((Az y2.1).bind λy9=>iteP (y9.1.length=y2.1.length) (j21 y9.1 y1.2.1.version y1.2.1.epoch y1.2.1.config.epoch y1.2.1.config.primary y1.2.1.config.replicas y1.2.1.config.witnesses y1.2.1.first y9.2.1 y1.2.1.commit y1.2.2.1) none) (j21 y2.1 y1.2.1.version y1.2.1.epoch y1.2.1.config.epoch y1.2.1.config.primary y1.2.1.config.replicas y1.2.1.config.witnesses y1.2.1.first y1.2.1.log y1.2.1.commit y1.2.2.1)))))))) none) none
def RV[eg] :=Db 151 Tryz.f151 (.st .cur) [] [.st .server,.i .i64] (λl _=>w9 l) [KT,gA,gT,N8,Ux] [] (by kernel_rfl) λl x=>by simp only[w9,tm,-eq_self];kernel_rfl
def xb[eg](a0:List gE):Option ((List gE)×eh×Unit):=
 (pk a0).bind λy1=>iteP (y1.1.length=a0.length) ((eF y1.1 20).bind λy2=>iteP (y2.1.length=y1.1.length) (br (y2.2.1==0) ((eT y2.1 ([(-1),998,999,1000]:List Int)).bind λy3=>iteP (y3.1.length=y2.1.length) (some (y3.1,(⟨y3.2.1,y1.2.1.servers,y1.2.1.sides,y1.2.1.master,y1.2.1.masterUp,y1.2.1.lease,y1.2.1.places⟩:eh),())) none) (br (y2.2.1==1) ((wZ y2.1).bind λy4=>iteP (y4.1.length=y2.1.length) (some (y4.1,(⟨y1.2.1.now,y1.2.1.servers,y4.2.1,y1.2.1.master,y1.2.1.masterUp,y1.2.1.lease,y1.2.1.places⟩:eh),())) none) (br (y2.2.1==2) ((w6 y2.1).bind λy5=>iteP (y5.1.length=y2.1.length) (some (y5.1,(⟨y1.2.1.now,y1.2.1.servers,y1.2.1.sides,y5.2.1,y1.2.1.masterUp,y1.2.1.lease,y1.2.1.places⟩:eh),())) none) (br (y2.2.1==3) ((eT y2.1 ([(-1),3,4]:List Int)).bind λy6=>iteP (y6.1.length=y2.1.length) (some (y6.1,(⟨y1.2.1.now,y1.2.1.servers,y1.2.1.sides,y1.2.1.master,y6.2.1,y1.2.1.lease,y1.2.1.places⟩:eh),())) none) (br (y2.2.1==4) ((w7 y2.1).bind λy7=>iteP (y7.1.length=y2.1.length) (some (y7.1,(⟨y1.2.1.now,y1.2.1.servers,y1.2.1.sides,y1.2.1.master,y1.2.1.masterUp,y7.2.1,y1.2.1.places⟩:eh),())) none) (br (y2.2.1==5) ((Ay y2.1).bind λy8=>iteP (y8.1.length=y2.1.length) (some (y8.1,(⟨y1.2.1.now,y1.2.1.servers,y1.2.1.sides,y1.2.1.master,y1.2.1.masterUp,y1.2.1.lease,y8.2.1⟩:eh),())) none) (br (y2.2.1==6) ((w9 y2.1).bind λy9=>iteP (y9.1.length=y2.1.length) ((eF y9.1 5).bind λy10=>iteP (y10.1.length=y9.1.length) (iteP (0<=y10.2.1/\y10.2.1< (y1.2.1.servers.length:Int)) ((y1.2.1.servers[y10.2.1.toNat]?).bind λ_=>some (y10.1,(⟨y1.2.1.now,(y1.2.1.servers.set y10.2.1.toNat y9.2.1),y1.2.1.sides,y1.2.1.master,y1.2.1.masterUp,y1.2.1.lease,y1.2.1.places⟩:eh),())) none) none) none) (some (y2.1,y1.2.1,()))))))))) none) none
def RX[eg] :=Db 46 Tryz.f46 (.st .cur) [] Pc (λl _=>xb l) [Iu,gA,gT,RQ,RS,RT,Uw,RV] [] (by kernel_rfl) λl x=>by simp only[xb,tm,-eq_self];kernel_rfl
abbrev uS:LX:=⟨⟨[od,Ch,tW],[pH],lq,0,29⟩,[(.ext 0,⟨[Ch],[],lq,0,29⟩)],[],[1,3,4],[3]⟩
def nh(s:Mg×(vw×Unit)×List Int×Unit):uS.R:=
 br (decide (s.1.2.2.1< (s.2.1.1.2.1.length:Int))) ((ew (⟨s.2.1.1.1,s.2.1.1.2.1,s.2.1.1.2.2.1,(⟨s.2.1.1.2.2.2.1,s.2.1.1.2.2.2.2.1⟩:eC),s.2.1.1.2.2.2.2.2.1,(⟨s.2.1.1.2.2.2.2.2.2.1,s.2.1.1.2.2.2.2.2.2.2.1,s.2.1.1.2.2.2.2.2.2.2.2.1⟩:fH),s.2.1.1.2.2.2.2.2.2.2.2.2.1⟩:eh)).bind λy13=>br y13.1 (iteP (0<=s.1.2.2.1) ((s.2.1.1.2.1[s.1.2.2.1.toNat]?).bind λx14=>(gb x14 s.1.2.2.1).bind λy15=>br y15.1 (iteP ((s.2.2.1++([s.1.2.2.1]:List Int)).length*8<=2 ^ 40) (some (.inl (((),(),(IntKind.wrap .i64 (s.1.2.2.1+1)),()),s.2.1,(s.2.2.1++([s.1.2.2.1]:List Int)),()))) none) (some (.inl (((),(),(IntKind.wrap .i64 (s.1.2.2.1+1)),()),s.2)))) none) (some (.inr (((),()),(()),s.2.2)))) (some (.inr (((),()),(()),s.2.2)))
def BD:=hO nh
def BE[eg] :=ky Tryz.f215 [0] uS nh [eM,kT] [] (by kernel_rfl) λs=>by simp only[nh,tm];kernel_rfl
def mJ(a0:eh):Option ((List Int)×Unit):=
 (BD (((),(),0,()),((a0.now,a0.servers,a0.sides,a0.master.configs,a0.master.activated,a0.masterUp,a0.lease.epoch,a0.lease.holder,a0.lease.ends,a0.places,()),()),([]:List Int),())).bind λe17=>some e17.2.2
def EX[eg] :=fw 215 Tryz.f215 FI pG (λx=>mJ x.1) [] [BE] (by kernel_rfl) λx=>by simp only[mJ,tm];kernel_rfl
def uT[eg](a0:Hd):Option ((List gE)×eh×Int×Unit):=
 (H3 a0).bind λy1=>(xb y1.1).bind λy2=>iteP (y2.1.length=y1.1.length) ((mJ y2.2.1).bind λy3=>(eF y2.1 7).bind λy4=>iteP (y4.1.length=y2.1.length) (br (decide ((y3.1.length:Int)>0)) ((gQ y4.1 5).bind λy5=>iteP (y5.1.length=y4.1.length) (br (!y5.2.1) ((eF y5.1 (y3.1.length:Int)).bind λy6=>iteP (y6.1.length=y5.1.length) (iteP (0<=y6.2.1/\y6.2.1< (y3.1.length:Int)) ((y3.1[y6.2.1.toNat]?).bind λx7=>some (y6.1,y2.2.1,x7,())) none) none) (some (y5.1,y2.2.1,(IntKind.wrap .i64 (y4.2.1-1)),()))) none) (some (y4.1,y2.2.1,(IntKind.wrap .i64 (y4.2.1-1)),()))) none) none
def Ps[eg] :=Zg 130 Tryz.f130 (.st .cur) [.ty (.h)] wj (λx=>uT x.1) [Uu,RX,EX,gA,lQ] [] (by kernel_rfl) λx=>by simp only[uT,tm,-eq_self];kernel_rfl
def iM[eg](a0:Hd):Option (eh×Int×Op×Unit):=
 (uT a0).bind λy1=>(xX y1.1).bind λy2=>iteP (y2.1.length=y1.1.length) (some (y1.2.1,y1.2.2.1,y2.2.1,())) none
def wl[eg] :=fw 41 Tryz.f41 [.ty (.h)] [.st .cluster,.i .i64,.st .op] (λx=>iM x.1) [Ps,Oa] [] (by kernel_rfl) λx=>by simp only[iM,tm,-eq_self];kernel_rfl
def iw(a0:ey):Option (ey×Unit):=
 iteP ((([]:List Int)++a0.replicas).length*8<=2 ^ 40) (iteP ((([]:List Int)++a0.witnesses).length*8<=2 ^ 40) (some ((⟨a0.epoch,a0.primary,(([]:List Int)++a0.replicas),(([]:List Int)++a0.witnesses)⟩:ey),())) none) none
def vE[eg] :=fw 208 Tryz.f208 Me Uj (λx=>iw x.1) [] [] (by kernel_rfl) λx=>by simp only[iw,tm];kernel_rfl
def mL(a0:List eA):Option ((List eA)×Unit):=iteP (a0.length*56<=2 ^ 40) (some (a0,())) none
def EY[eg] :=Yv 203 Tryz.f203 (.st .entry) 56 mL (by kernel_rfl) (λ_=>rfl) λ_=>by kernel_rfl
def pn(a0:eu):Option (eu×Unit):=
 (iw a0.config).bind λy1=>(mL a0.log).bind λy2=>(mL a0.learned).bind λy3=>some ((⟨a0.up,a0.intact,a0.version,a0.epoch,y1.1,a0.first,y2.1,a0.commit,y3.1⟩:eu),())
def Iw[eg] :=fw 160 Tryz.f160 Kq Ui (λx=>pn x.1) [vE,EY] [] (by kernel_rfl) λx=>by simp only[pn,tm];kernel_rfl
def jl(a0:List Int):Option ((List Int)×Unit):=iteP (a0.length*8<=2 ^ 40) (some (a0,())) none
def vF[eg] :=Yv 78 Tryz.f78 (.i .i64) 8 jl (by kernel_rfl) (λ_=>rfl) λ_=>by kernel_rfl
abbrev xd:LX:=⟨⟨[ut,Cf,(10,.cl (.ro (.st .config))),GN,vT],[GO,N5],Up,0,25⟩,[(.ext 0,⟨[ut,Cf],[GO,N5],Up,0,25⟩)],[.b 2 0 (.st .config)],[2,3,10,11,12],[2,3]⟩
def k9(s: (Unit×Unit×List ey×Int×Int×Unit)×(Ei×Ei×Unit)×List ey×Unit):xd.R:=
 br (decide (s.1.2.2.2.2.1<s.1.2.2.2.1)) (iteP (0<=s.1.2.2.2.2.1) ((s.1.2.2.1[s.1.2.2.2.2.1.toNat]?).bind λx14=>(iw x14).bind λy15=>iteP ((s.2.2.1++([y15.1]:List ey)).length*64<=2 ^ 40) (some (.inl (((),(),s.1.2.2.1,s.1.2.2.2.1,(IntKind.wrap .i64 (s.1.2.2.2.2.1+1)),()),s.2.1,(s.2.2.1++([y15.1]:List ey)),()))) none) none) (some (.inr (((),(),()),s.2)))
def xe:=hO k9
def EZ[eg] :=ky Tryz.f161 [0] xd k9 [vE] [] (by kernel_rfl) λs=>by simp only[k9,tm];kernel_rfl
def po(a0:eC):Option (eC×Unit):=
 (xe (((),(),a0.configs,(a0.configs.length:Int),0,()),(((),0,()),((),a0.activated,()),()),([]:List ey),())).bind λe16=>some ((⟨e16.2.2.1,e16.2.1.2.1.2.1⟩:eC),())
def Ix[eg] :=fw 161 Tryz.f161 Pe Uk (λx=>po x.1) [] [EZ] (by kernel_rfl) λx=>by simp only[po,tm];kernel_rfl
def pp(a0:List fB):Option ((List fB)×Unit):=iteP (a0.length*24<=2 ^ 40) (some (a0,())) none
def E0[eg] :=Yv 162 Tryz.f162 (.st .place) 24 pp (by kernel_rfl) (λ_=>rfl) λ_=>by kernel_rfl
abbrev v8:LX:=⟨⟨[od,uu,Kt,(9,.cl (.ro (.st .server))),El,GN],[pH,td,N6],Uq,0,36⟩,[(.ext 0,⟨[od,uu,Kt],[pH,td,N6],Uq,0,36⟩)],[.b 2 1 (.st .server)],[1,2,3,9,10,11],[1,2,3]⟩
def j6(s: (Unit×Unit×Unit×List eu×Int×Int×Unit)×(vw×ur×Vr×Unit)×List eu×Unit):v8.R:=
 br (decide (s.1.2.2.2.2.2.1<s.1.2.2.2.2.1)) (iteP (0<=s.1.2.2.2.2.2.1) ((s.1.2.2.2.1[s.1.2.2.2.2.2.1.toNat]?).bind λx60=>(pn x60).bind λy61=>iteP ((s.2.2.1++([y61.1]:List eu)).length*152<=2 ^ 40) (some (.inl (((),(),(),s.1.2.2.2.1,s.1.2.2.2.2.1,(IntKind.wrap .i64 (s.1.2.2.2.2.2.1+1)),()),s.2.1,(s.2.2.1++([y61.1]:List eu)),()))) none) none) (some (.inr (((),(),(),()),s.2)))
def v9:=hO j6
def CW[eg] :=ky Tryz.f51 [0] v8 j6 [Iw] [] (by kernel_rfl) λs=>by simp only[j6,tm];kernel_rfl
def nH(a0:eh):Option (eh×Unit):=
 (v9 (((),(),(),a0.servers,(a0.servers.length:Int),0,()),((a0.now,a0.servers,a0.sides,a0.master.configs,a0.master.activated,a0.masterUp,a0.lease.epoch,a0.lease.holder,a0.lease.ends,a0.places,()),(0,(),(),(),0,0,0,0,0,(),()),(a0.now,(),a0.sides,a0.master.configs,a0.master.activated,a0.masterUp,a0.lease.epoch,a0.lease.holder,a0.lease.ends,a0.places,()),()),([]:List eu),())).bind λe62=>(jl e62.2.1.1.2.2.1).bind λy63=>(po (⟨e62.2.1.1.2.2.2.1,e62.2.1.1.2.2.2.2.1⟩:eC)).bind λy64=>(pp e62.2.1.1.2.2.2.2.2.2.2.2.2.1).bind λy65=>some ((⟨e62.2.1.2.2.1.1,e62.2.2.1,y63.1,y64.1,e62.2.1.2.2.1.2.2.2.2.2.1,(⟨e62.2.1.2.2.1.2.2.2.2.2.2.1,e62.2.1.2.2.1.2.2.2.2.2.2.2.1,e62.2.1.2.2.1.2.2.2.2.2.2.2.2.1⟩:fH),y65.1⟩:eh),())
def F9[eg] :=fw 51 Tryz.f51 FI Pc (λx=>nH x.1) [vF,Ix,E0] [CW] (by kernel_rfl) λx=>by simp only[nH,tm];kernel_rfl
def eP(a0:Int)(a1:Int)(a2:Int):Option (Bool×Unit):=
 br (decide (a1<=a0)) (some ((decide (a0<=a2)),())) (some (false,()))
def jL[eg] :=fw 50 Tryz.f50 Rp [.b] (λx=>eP x.1 x.2.1 x.2.2.1) [] [] (by kernel_rfl) λx=>by simp only[eP,tm];kernel_rfl
def qs(a0:Int):Option (Bool×Unit):=
 (eP a0 0 3).bind λy1=>some ((!y1.1),())
def Ga[eg] :=fw 234 Tryz.f234 FH [.b] (λx=>qs x.1) [jL] [] (by kernel_rfl) λx=>by simp only[qs,tm];kernel_rfl
abbrev kH:LX:=⟨⟨[wk,(1,.cl (.fc 234)),yf,yu],[],[],0,19⟩,[(.ret,⟨[tW],[],[],0,19⟩),(.ext 0,⟨[wK],[],[],0,19⟩)],[],[0,1,7,8],[4]⟩
def fr(s:VD×Unit×Unit):kH.R:=
 br (decide (s.1.2.2.2.1<s.1.2.2.1)) (iteP (0<=s.1.2.2.2.1) ((s.1.1[s.1.2.2.2.1.toNat]?).bind λx4=>(qs x4).bind λy5=>br y5.1 (some (.inr (.inl (s.1.2.2.2,(()),(()))))) (some (.inl ((s.1.1,(),s.1.2.2.1,(IntKind.wrap .i64 (s.1.2.2.2.1+1)),()),(()),(()))))) none) (some (.inr (.inr (((),()),(()),(())))))
def iK:=hO fr
def pI[eg] :=ky Tryz.f179 [0] kH fr [Ga] [] (by kernel_rfl) λs=>by simp only[fr,tm];kernel_rfl
def gU(a0:List Int):Option (Int×Unit):=
 (iK ((a0,(),(a0.length:Int),0,()),(()),(()))).bind λe6=>Sum.elim (λe6_0=>some e6_0.1) (λ_=>some ((-1),())) e6
def qN[eg] :=fw 179 Tryz.f179 Vn oI (λx=>gU x.1) [] [pI] (by kernel_rfl) λx=>by simp only[gU,tm];kernel_rfl
def gq(a0:List Int):Option (Bool×Unit):=
 (gU a0).bind λy1=>some ((decide (y1.1≥0)),())
def pq[eg] :=fw 68 Tryz.f68 Vn [.b] (λx=>gq x.1) [qN] [] (by kernel_rfl) λx=>by simp only[gq,tm];kernel_rfl
def pZ(a0:List Int):Option (Bool×Unit):=
 br ((a0.length:Int)==5) ((gq a0).bind λy1=>some ((!y1.1),())) (some (false,()))
def MG[eg] :=fw 153 Tryz.f153 Md [.b] (λx=>pZ x.1) [pq] [] (by kernel_rfl) λx=>by simp only[pZ,tm];kernel_rfl
abbrev xf:LX:=⟨⟨[wk,(5,.cl (.ro (.i .i64))),tF,yf],[],[],0,29⟩,[(.ret,⟨[tE],[],[],0,29⟩),(.ext 0,⟨[ye],[],[],0,29⟩)],[],[0,5,6,7],[2]⟩
def iy(s:VE×Unit×Unit):xf.R:=
 br (decide (s.1.2.2.2.1<s.1.2.2.1)) (iteP (0<=s.1.2.2.2.1) ((s.1.2.1[s.1.2.2.2.1.toNat]?).bind λx5=>(eP x5 0 4).bind λy6=>br (!y6.1) (some (.inr (.inl ((false,()),(()),(()))))) (br (decide (s.1.2.2.2.1>0)) (iteP (0<=(IntKind.wrap .i64 (s.1.2.2.2.1-1))) ((s.1.1[(IntKind.wrap .i64 (s.1.2.2.2.1-1)).toNat]?).bind λx7=>br (decide (x5<=x7)) (some (.inr (.inl ((false,()),(()),(()))))) (some (.inl ((s.1.1,s.1.2.1,s.1.2.2.1,(IntKind.wrap .i64 (s.1.2.2.2.1+1)),()),(()),(()))))) none) (some (.inl ((s.1.1,s.1.2.1,s.1.2.2.1,(IntKind.wrap .i64 (s.1.2.2.2.1+1)),()),(()),(())))))) none) (some (.inr (.inr (((),()),(()),(())))))
def pu:=hO iy
def E3[eg] :=ky Tryz.f92 [0] xf iy [jL] [] (by kernel_rfl) λs=>by simp only[iy,tm];kernel_rfl
def jm(a0:List Int):Option (Bool×Unit):=
 (pu ((a0,a0,(a0.length:Int),0,()),(()),(()))).bind λe8=>Sum.elim (λe8_0=>some e8_0.1) (λ_=>some (true,())) e8
def Iy[eg] :=fw 92 Tryz.f92 Md [.b] (λx=>jm x.1) [] [E3] (by kernel_rfl) λx=>by simp only[jm,tm];kernel_rfl
abbrev xg:LX:=⟨⟨[wk,qX,yf,yu],[],[],0,19⟩,[(.ret,⟨[tW],[],[],0,19⟩),(.ext 0,⟨[wK],[],[],0,19⟩)],[],[0,1,7,8],[4]⟩
def lc(s: (List Int×Int×Int×Int×Unit)×Unit×Unit):xg.R:=
 br (decide (s.1.2.2.2.1<s.1.2.2.1)) (iteP (0<=s.1.2.2.2.1) ((s.1.1[s.1.2.2.2.1.toNat]?).bind λx5=>br (s.1.2.1==x5) (some (.inr (.inl (s.1.2.2.2,(()),(()))))) (some (.inl ((s.1.1,s.1.2.1,s.1.2.2.1,(IntKind.wrap .i64 (s.1.2.2.2.1+1)),()),(()),(()))))) none) (some (.inr (.inr (((),()),(()),(())))))
def sU:=hO lc
def E4[eg] :=ky Tryz.f240 [0] xg lc [] [] (by kernel_rfl) λs=>by simp only[lc,tm];kernel_rfl
def rE(a0:List Int)(a1:Int):Option (Int×Unit):=
 (sU ((a0,a1,(a0.length:Int),0,()),(()),(()))).bind λe6=>Sum.elim (λe6_0=>some e6_0.1) (λ_=>some ((-1),())) e6
def Iz[eg] :=fw 240 Tryz.f240 Kr oI (λx=>rE x.1 x.2.1) [] [E4] (by kernel_rfl) λx=>by simp only[rE,tm];kernel_rfl
def nY(a0:List Int)(a1:Int):Option (Bool×Unit):=
 (rE a0 a1).bind λy1=>some ((decide (y1.1≥0)),())
def CX[eg] :=fw 183 Tryz.f183 Kr [.b] (λx=>nY x.1 x.2.1) [Iz] [] (by kernel_rfl) λx=>by simp only[nY,tm];kernel_rfl
def lw(a0:List Int)(a1:Int):Option (Bool×Unit):=
 (nY a0 a1).bind λy1=>some (y1.1,())
def xh[eg] :=fw 81 Tryz.f81 Kr [.b] (λx=>lw x.1 x.2.1) [CX] [] (by kernel_rfl) λx=>by simp only[lw,tm];kernel_rfl
def zH(a0:Int):Option (Int×Unit):=
 br (decide (a0≥4294967296)) (none) (br (decide (a0≥65536)) (none) (br (decide (a0≥256)) (none) (iteP (0<=(IntKind.wrap .u8 a0)) ((Zf[(IntKind.wrap .u8 a0).toNat]?).bind λx1=>some ((IntKind.wrap .i64 (0+(IntKind.wrap .i64 (x1.toNat:Int)))),())) none)))
def MH[eg] :=fw 284 Tryz.f284 [.ty (.i .u64)] oI (λx=>zH x.1) [] [] (by kernel_rfl) λx=>by simp only[zH,tm];kernel_rfl
def xi(a0:Int):Option (Int×Unit):=
 (zH a0).bind λy1=>some (y1.1,())
def RY[eg] :=fw 264 Tryz.f264 [.ty (.i .u64)] oI (λx=>xi x.1) [MH] [] (by kernel_rfl) λx=>by simp only[xi,tm];kernel_rfl
def ma(a0:Int):Option (Bool×Unit):=
 some ((!(a0==a0)),())
def Gb[eg] :=fw 304 Tryz.f304 FH [.b] (λx=>ma x.1) [] [] (by kernel_rfl) λx=>by simp only[ma,tm];kernel_rfl
def lG(a0:Int)(a1:Int):Option (Bool×Unit):=
 (ma a0).bind λy1=>br y1.1 ((ma a1).bind λy2=>br (!y2.1) (some (true,())) (some ((decide (a0<a1)),()))) (some ((decide (a0<a1)),()))
def IA[eg] :=fw 280 Tryz.f280 Vo [.b] (λx=>lG x.1 x.2.1) [Gb] [] (by kernel_rfl) λx=>by simp only[lG,tm];kernel_rfl
abbrev kr:LX:=⟨⟨[wL,qX,Ah,tF,yf],[],lq,1,49⟩,[(.ext 2,⟨[wL,qX,Ah,tF],[],lq,1,49⟩)],[],[0,1,2,6,7],[0,1,2,6]⟩
def eZ(s: (Unit×Int×Int×Int×Int×Unit)×Unit×List Int×Unit):kr.R:=
 br (decide (s.1.2.2.2.2.1>s.1.2.1)) (iteP (0<=s.1.2.2.2.2.1/\s.1.2.2.2.2.1< (s.2.2.1.length:Int)) ((s.2.2.1[s.1.2.2.2.2.1.toNat]?).bind λx10=>iteP (0<=(IntKind.wrap .i64 (s.1.2.2.2.2.1-1))/\(IntKind.wrap .i64 (s.1.2.2.2.2.1-1))< (s.2.2.1.length:Int)) ((s.2.2.1[(IntKind.wrap .i64 (s.1.2.2.2.2.1-1)).toNat]?).bind λx11=>(lG x10 x11).bind λy12=>br y12.1 (iteP (0<=(IntKind.wrap .i64 (s.1.2.2.2.2.1-1))/\(IntKind.wrap .i64 (s.1.2.2.2.2.1-1))< (s.2.2.1.length:Int)) ((s.2.2.1[(IntKind.wrap .i64 (s.1.2.2.2.2.1-1)).toNat]?).bind λx13=>iteP (0<=s.1.2.2.2.2.1/\s.1.2.2.2.2.1< (s.2.2.1.length:Int)) ((s.2.2.1[s.1.2.2.2.2.1.toNat]?).bind λx14=>iteP (0<=s.1.2.2.2.2.1/\s.1.2.2.2.2.1< (s.2.2.1.length:Int)) (iteP (0<=(IntKind.wrap .i64 (s.1.2.2.2.2.1-1))/\(IntKind.wrap .i64 (s.1.2.2.2.2.1-1))< (s.2.2.1.length:Int)) ((s.2.2.1[s.1.2.2.2.2.1.toNat]?).bind λ_=>let z16:=s.2.2.1.set s.1.2.2.2.2.1.toNat x13;(z16[(IntKind.wrap .i64 (s.1.2.2.2.2.1-1)).toNat]?).bind λ_=>some (.inl (((),s.1.2.1,s.1.2.2.1,s.1.2.2.2.1,(IntKind.wrap .i64 (s.1.2.2.2.2.1-1)),()),(()),(z16.set ((IntKind.wrap .i64 (s.1.2.2.2.2.1-1)).toNat) x14),()))) none) none) none) none) (some (.inr (((),s.1.2.1,s.1.2.2.1,s.1.2.2.2.1,()),(()),s.2.2)))) none) none) (some (.inr (((),s.1.2.1,s.1.2.2.1,s.1.2.2.2.1,()),(()),s.2.2)))
def gr:=hO eZ
def pv[eg] :=ky Tryz.f274 [0,0] kr eZ [IA] [] (by kernel_rfl) λs=>by simp only[eZ,tm];kernel_rfl
abbrev kt:LX:=⟨⟨[wL,qX,Ah,tF],[],lq,1,49⟩,[(.ext 0,⟨[],[],lq,1,49⟩)],[],[0,1,2,6],[]⟩
def eJ(s: (Unit×Int×Int×Int×Unit)×Unit×List Int×Unit):kt.R:=
 br (decide (s.1.2.2.2.1<s.1.2.2.1)) ((gr (((),s.1.2.1,s.1.2.2.1,s.1.2.2.2.1,s.1.2.2.2),(()),s.2.2)).bind λe19=>some (.inl (((),e19.1.2.1,e19.1.2.2.1,(IntKind.wrap .i64 (e19.1.2.2.2.1+1)),()),(()),e19.2.2))) (some (.inr ((()),(()),s.2.2)))
def gt:=hO eJ
def pz[eg] :=ky Tryz.f274 [0] kt eJ [] [pv] (by kernel_rfl) λs=>by simp only[eJ,tm];kernel_rfl
def fi(a0:List Int)(a1:Int)(a2:Int):Option ((List Int)×Unit):=
 (gt (((),a1,a2,(IntKind.wrap .i64 (a1+1)),()),(()),a0,())).bind λe20=>some e20.2.2
def p9[eg] :=YU 274 Tryz.f274 (.i .i64) Vo [] (λl x=>fi l x.1 x.2.1) [] [pz] (by kernel_rfl) λl x=>by simp only[fi,tm];kernel_rfl
abbrev mM:LX:=⟨⟨[wL,qX,Ah,vx,Kv,Cg],[],lq,1,134⟩,[(.ret,⟨[],[],lq,1,134⟩)],[],[0,1,2,3,8,9],[]⟩
def gG(s: (Unit×Int×Int×Int×Bool×Bool×Unit)×Unit×List Int×Unit):mM.R:=
 br (decide ((IntKind.wrap .i64 (s.1.2.2.1-s.1.2.1))<=12)) ((fi s.2.2.1 s.1.2.1 s.1.2.2.1).bind λy7=>iteP (y7.1.length=s.2.2.1.length) (some (.inr ((()),(()),y7.1,()))) none) (br (s.1.2.2.2.1==0) (none) (br (!s.1.2.2.2.2.1) (none) (none)))
def jM:=hO gG
def sV[eg] :=ky Tryz.f263 [0] mM gG [p9] [] (by kernel_rfl) λs=>by simp only[gG,tm,-eq_self];kernel_rfl
def fP(a0:List Int)(a1:Int)(a2:Int)(a3:Int):Option ((List Int)×Unit):=
 (jM (((),a1,a2,a3,true,true,()),(()),a0,())).bind λe8=>some e8.2.2
def ub[eg] :=YU 263 Tryz.f263 (.i .i64) Rp [] (λl x=>fP l x.1 x.2.1 x.2.2.1) [] [sV] (by kernel_rfl) λl x=>by simp only[fP,tm];kernel_rfl
def jN(a0:List Int):Option ((List Int)×Unit):=
 (xi (IntKind.wrap .u64 (a0.length:Int))).bind λy1=>(fP a0 0 (a0.length:Int) y1.1).bind λy2=>iteP (y2.1.length=a0.length) (some (y2.1,())) none
def E5[eg] :=YU 241 Tryz.f241 (.i .i64) [] [] (λl _=>jN l) [RY,ub] [] (by kernel_rfl) λl x=>by simp only[jN,tm,-eq_self];kernel_rfl
abbrev rk:LX:=⟨⟨[wL,vx,(4,.cl (.sub 0 (.i .i64))),so],[],lq,0,61⟩,[(.ext 2,⟨[wL,vx],[],lq,0,61⟩)],[],[0,3,4,5],[0,3]⟩
def iB(s: (Unit×Int×(Nat×Nat)×Int×Unit)×Unit×List Int×Unit):rk.R:=
 br (decide (s.1.2.2.2.1< ((s.1.2.2.1.2:Nat):Int))) (iteP (0<=s.1.2.2.2.1/\s.1.2.2.2.1< ((s.1.2.2.1.2:Nat):Int)) ((s.2.2.1[(s.1.2.2.1.1+s.1.2.2.2.1.toNat)]?).bind λx9=>iteP (0<=(IntKind.wrap .i64 (s.1.2.2.2.1-1))/\(IntKind.wrap .i64 (s.1.2.2.2.1-1))< ((s.1.2.2.1.2:Nat):Int)) ((s.2.2.1[(s.1.2.2.1.1+(IntKind.wrap .i64 (s.1.2.2.2.1-1)).toNat)]?).bind λx10=>br (!(x9==x10)) (iteP (0<=s.1.2.2.2.1/\s.1.2.2.2.1< ((s.1.2.2.1.2:Nat):Int)) ((s.2.2.1[(s.1.2.2.1.1+s.1.2.2.2.1.toNat)]?).bind λx11=>iteP (0<=s.1.2.1/\s.1.2.1< (s.2.2.1.length:Int)) ((s.2.2.1[s.1.2.1.toNat]?).bind λ_=>some (.inl (((),(IntKind.wrap .i64 (s.1.2.1+1)),s.1.2.2.1,(IntKind.wrap .i64 (s.1.2.2.2.1+1)),()),(()),(s.2.2.1.set s.1.2.1.toNat x11),()))) none) none) (some (.inl (((),s.1.2.1,s.1.2.2.1,(IntKind.wrap .i64 (s.1.2.2.2.1+1)),()),(()),s.2.2)))) none) none) (some (.inr (((),s.1.2.1,()),(()),s.2.2)))
def rn:=hO iB
def yg[eg] :=ky Tryz.f242 [0,0] rk iB [] [] (by kernel_rfl) λs=>by simp only[iB,tm];kernel_rfl
abbrev rp:LX:=⟨⟨[wL,vx],[],lq,0,61⟩,[(.ret,⟨[wL,(2,.cl (.sub 0 (.i .i64)))],[],lq,0,61⟩),(.ext 0,⟨[wL,ye],[],lq,0,61⟩)],[],[0,3],[0,2]⟩
def fF(s:Ei×Unit×List Int×Unit):rp.R:=
 br (decide (s.1.2.1< (s.2.2.1.length:Int))) (iteP (0<=s.1.2.1/\s.1.2.1< (s.2.2.1.length:Int)) ((s.2.2.1[s.1.2.1.toNat]?).bind λx3=>iteP (0<=(IntKind.wrap .i64 (s.1.2.1-1))/\(IntKind.wrap .i64 (s.1.2.1-1))< (s.2.2.1.length:Int)) ((s.2.2.1[(IntKind.wrap .i64 (s.1.2.1-1)).toNat]?).bind λx4=>br (x3==x4) (iteP (0<=s.1.2.1/\s.1.2.1<=(s.2.2.1.length:Int)/\(s.2.2.1.length:Int)<=((s.2.2.1.length:Nat):Int)) ((rn (((),s.1.2.1,((0+s.1.2.1.toNat),((s.2.2.1.length:Int).toNat-s.1.2.1.toNat)),1,()),(()),s.2.2)).bind λe16=>iteP (0<=e16.1.2.1/\e16.1.2.1<=(e16.2.2.1.length:Int)/\(e16.2.2.1.length:Int)<=((e16.2.2.1.length:Nat):Int)) (iteP ((0+e16.1.2.1.toNat)+((e16.2.2.1.length:Int).toNat-e16.1.2.1.toNat)<=e16.2.2.1.length) (iteP (0<=(0:Int)/\(0:Int)<=e16.1.2.1/\e16.1.2.1<=((e16.2.2.1.length:Nat):Int)) (some (.inr (.inl (((),((0+(0:Int).toNat),(e16.1.2.1.toNat-(0:Int).toNat)),()),(()),(e16.2.2.1.take (0+e16.1.2.1.toNat)++List.replicate ((e16.2.2.1.length:Int).toNat-e16.1.2.1.toNat) (0:Int)++e16.2.2.1.drop ((0+e16.1.2.1.toNat)+((e16.2.2.1.length:Int).toNat-e16.1.2.1.toNat))),())))) none) none) none) none) (some (.inl (((),(IntKind.wrap .i64 (s.1.2.1+1)),()),(()),s.2.2)))) none) none) (some (.inr (.inr (((),(),()),(()),s.2.2))))
def nv:=hO fF
def yh[eg] :=ky Tryz.f242 [0] rp fF [] [yg] (by kernel_rfl) λs=>by simp only[fF,tm];kernel_rfl
def iz(a0:List Int):Option ((List Int)×Unit):=
 br (decide ((a0.length:Int)<2)) (some (a0,())) ((nv (((),1,()),(()),a0,())).bind λe17=>Sum.elim (λe17_0=>iteP (e17_0.1.2.1.1=0/\e17_0.1.2.1.2<=e17_0.2.2.1.length) (some ((e17_0.2.2.1.take e17_0.1.2.1.2),())) (iteP (e17_0.1.2.1.1+e17_0.1.2.1.2<=e17_0.2.2.1.length) (some (((e17_0.2.2.1.drop e17_0.1.2.1.1).take e17_0.1.2.1.2),())) none)) (λe17_1=>some e17_1.2.2) e17)
def AA[eg] :=Zb 242 Tryz.f242 (.i .i64) [] pG (λl _=>iz l) [] [yh] (by kernel_rfl) λl x=>by simp only[iz,tm,-eq_self];kernel_rfl
def lx(a0:List Int):Option ((List Int)×Unit):=
 (jl a0).bind λy1=>(jN y1.1).bind λy2=>iteP (y2.1.length=y1.1.length) ((iz y2.1).bind λy3=>some (y3.1,())) none
def Cx[eg] :=fw 186 Tryz.f186 Md pG (λx=>lx x.1) [vF,E5,AA] [] (by kernel_rfl) λx=>by simp only[lx,tm,-eq_self];kernel_rfl
def iC(a0:Int)(a1:List Int):Option (Bool×Unit):=
 (lw a1 a0).bind λy1=>some (y1.1,())
def rq[eg] :=fw 187 Tryz.f187 [.ty (.i .i64),.pr (.ls (.i .i64))] [.b] (λx=>iC x.1 x.2.1) [xh] [] (by kernel_rfl) λx=>by simp only[iC,tm];kernel_rfl
abbrev i7:LX:=⟨⟨[wk,(1,.fn 187 [.pro (.ls (.i .i64))]),yf,yu],[],[],0,19⟩,[(.ret,⟨[tW],[],[],0,19⟩),(.ext 0,⟨[wK],[],[],0,19⟩)],[],[0,1,7,8],[4]⟩
def eX(s: (List Int×(List Int×Unit)×Int×Int×Unit)×Unit×Unit):i7.R:=
 br (decide (s.1.2.2.2.1<s.1.2.2.1)) (iteP (0<=s.1.2.2.2.1) ((s.1.1[s.1.2.2.2.1.toNat]?).bind λx5=>(iC x5 s.1.2.1.1).bind λy6=>br y6.1 (some (.inr (.inl (s.1.2.2.2,(()),(()))))) (some (.inl ((s.1.1,s.1.2.1,s.1.2.2.1,(IntKind.wrap .i64 (s.1.2.2.2.1+1)),()),(()),(()))))) none) (some (.inr (.inr (((),()),(()),(())))))
def gM:=hO eX
def ni[eg] :=ky Tryz.f179 [0] i7 eX [rq] [] (by kernel_rfl) λs=>by simp only[eX,tm];kernel_rfl
def fY(a0:List Int)(a1_0:List Int):Option (Int×Unit):=
 (gM ((a0,(a1_0,()),(a0.length:Int),0,()),(()),(()))).bind λe7=>Sum.elim (λe7_0=>some e7_0.1) (λ_=>some ((-1),())) e7
def nI[eg] :=fw 179 Tryz.f179 [.ty (.ls (.i .i64)),.fn 187 pG] oI (λx=>fY x.1 x.2.1.1) [] [ni] (by kernel_rfl) λx=>by simp only[fY,tm];kernel_rfl
abbrev iH:LX:=⟨⟨[wL,(1,.fn 187 [.pro (.ls (.i .i64))]),so,tF],[],lq,0,42⟩,[(.ext 0,⟨[wL,so],[],lq,0,42⟩)],[],[0,1,5,6],[0,5]⟩
def eS(s: (Unit×(List Int×Unit)×Int×Int×Unit)×Unit×List Int×Unit):iH.R:=
 br (decide (s.1.2.2.2.1< (s.2.2.1.length:Int))) (iteP (0<=s.1.2.2.2.1/\s.1.2.2.2.1< (s.2.2.1.length:Int)) ((s.2.2.1[s.1.2.2.2.1.toNat]?).bind λx6=>(iC x6 s.1.2.1.1).bind λy7=>br (!y7.1) (iteP (0<=s.1.2.2.1/\s.1.2.2.1< (s.2.2.1.length:Int)) ((s.2.2.1[s.1.2.2.1.toNat]?).bind λ_=>some (.inl (((),s.1.2.1,(IntKind.wrap .i64 (s.1.2.2.1+1)),(IntKind.wrap .i64 (s.1.2.2.2.1+1)),()),(()),(s.2.2.1.set s.1.2.2.1.toNat x6),()))) none) (some (.inl (((),s.1.2.1,s.1.2.2.1,(IntKind.wrap .i64 (s.1.2.2.2.1+1)),()),(()),s.2.2)))) none) (some (.inr (((),s.1.2.2.1,()),(()),s.2.2)))
def iI:=hO eS
def lW[eg] :=ky Tryz.f77 [0] iH eS [rq] [] (by kernel_rfl) λs=>by simp only[eS,tm];kernel_rfl
def fk(a0:List Int)(a1_0:List Int):Option ((List Int)×Unit):=
 (fY a0 a1_0).bind λy1=>br (y1.1==(-1)) (some (a0,())) ((iI (((),(a1_0,()),y1.1,(IntKind.wrap .i64 (y1.1+1)),()),(()),a0,())).bind λe12=>iteP (0<=e12.1.2.1/\e12.1.2.1<=(e12.2.2.1.length:Int)/\(e12.2.2.1.length:Int)<=((e12.2.2.1.length:Nat):Int)) (iteP ((0+e12.1.2.1.toNat)+((e12.2.2.1.length:Int).toNat-e12.1.2.1.toNat)<=e12.2.2.1.length) (iteP (0<=(0:Int)/\(0:Int)<=e12.1.2.1/\e12.1.2.1<=((e12.2.2.1.length:Nat):Int)) (iteP ((0+(0:Int).toNat)=0/\(e12.1.2.1.toNat-(0:Int).toNat)<=(e12.2.2.1.take (0+e12.1.2.1.toNat)++List.replicate ((e12.2.2.1.length:Int).toNat-e12.1.2.1.toNat) (0:Int)++e12.2.2.1.drop ((0+e12.1.2.1.toNat)+((e12.2.2.1.length:Int).toNat-e12.1.2.1.toNat))).length) (some (((e12.2.2.1.take (0+e12.1.2.1.toNat)++List.replicate ((e12.2.2.1.length:Int).toNat-e12.1.2.1.toNat) (0:Int)++e12.2.2.1.drop ((0+e12.1.2.1.toNat)+((e12.2.2.1.length:Int).toNat-e12.1.2.1.toNat))).take (e12.1.2.1.toNat-(0:Int).toNat)),())) (iteP ((0+(0:Int).toNat)+(e12.1.2.1.toNat-(0:Int).toNat)<=(e12.2.2.1.take (0+e12.1.2.1.toNat)++List.replicate ((e12.2.2.1.length:Int).toNat-e12.1.2.1.toNat) (0:Int)++e12.2.2.1.drop ((0+e12.1.2.1.toNat)+((e12.2.2.1.length:Int).toNat-e12.1.2.1.toNat))).length) (some ((((e12.2.2.1.take (0+e12.1.2.1.toNat)++List.replicate ((e12.2.2.1.length:Int).toNat-e12.1.2.1.toNat) (0:Int)++e12.2.2.1.drop ((0+e12.1.2.1.toNat)+((e12.2.2.1.length:Int).toNat-e12.1.2.1.toNat))).drop (0+(0:Int).toNat)).take (e12.1.2.1.toNat-(0:Int).toNat)),())) none)) none) none) none)
def mw[eg] :=Zb 77 Tryz.f77 (.i .i64) [.fn 187 pG] pG (λl x=>fk l x.1.1) [nI] [lW] (by kernel_rfl) λl x=>by simp only[fk,tm,-eq_self];kernel_rfl
def jA(a0:List Int)(a1:List Int):Option ((List Int)×Unit):=
 (lx a0).bind λy1=>(fk y1.1 a1).bind λy2=>some (y2.1,())
def BF[eg] :=fw 83 Tryz.f83 HZ pG (λx=>jA x.1 x.2.1) [Cx,mw] [] (by kernel_rfl) λx=>by simp only[jA,tm];kernel_rfl
def lX(a0:List Int)(a1:List Int):Option ((List Int)×Unit):=
 (jA a0 a1).bind λy1=>(jA a0 y1.1).bind λy2=>some (y2.1,())
def CY[eg] :=fw 93 Tryz.f93 HZ pG (λx=>lX x.1 x.2.1) [BF] [] (by kernel_rfl) λx=>by simp only[lX,tm];kernel_rfl
def je(a0:ey):Option (Bool×Unit):=
 (eP a0.epoch 1 20).bind λy1=>br y1.1 ((jm a0.replicas).bind λy2=>br y2.1 ((jm a0.witnesses).bind λy3=>br y3.1 ((lw a0.replicas a0.primary).bind λy4=>br y4.1 ((lX a0.replicas a0.witnesses).bind λy5=>some (((y5.1.length:Int)==0),())) (some (false,()))) (some (false,()))) (some (false,()))) (some (false,()))
def q9[eg] :=fw 20 Tryz.f20 Me [.b] (λx=>je x.1) [jL,Iy,xh,CY] [] (by kernel_rfl) λx=>by simp only[je,tm];kernel_rfl
abbrev wb:LX:=⟨⟨[od,(6,.cl (.ro (.st .config))),yf,yu],[Mi],[],0,30⟩,[(.ret,⟨[od,tE],[Mi],[],0,30⟩),(.ext 0,⟨[od,ye],[Mi],[],0,30⟩)],[],[1,6,7,8],[1,2]⟩
def j8(s: (Unit×List ey×Int×Int×Unit)×(WT×Unit)×Unit):wb.R:=
 br (decide (s.1.2.2.2.1<s.1.2.2.1)) (iteP (0<=s.1.2.2.2.1) ((s.1.2.1[s.1.2.2.2.1.toNat]?).bind λx6=>(je x6).bind λy7=>br (!y7.1) (some (.inr (.inl (((),false,()),s.2.1,(()))))) (br (!(x6.epoch==(IntKind.wrap .i64 (s.1.2.2.2.1+1)))) (some (.inr (.inl (((),false,()),s.2.1,(()))))) (some (.inl (((),s.1.2.1,s.1.2.2.1,(IntKind.wrap .i64 (s.1.2.2.2.1+1)),()),s.2.1,(())))))) none) (some (.inr (.inr (((),(),()),s.2.1,(())))))
def rc:=hO j8
def CZ[eg] :=ky Tryz.f154 [0] wb j8 [q9] [] (by kernel_rfl) λs=>by simp only[j8,tm];kernel_rfl
def mc(a0:eC):Option (Bool×Unit):=
 (rc (((),a0.configs,(a0.configs.length:Int),0,()),((a0.configs,a0.activated,()),()),(()))).bind λe8=>Sum.elim (λe8_0=>some e8_0.1.2) (λe8_1=>(eP e8_1.2.1.1.2.1 0 (e8_1.2.1.1.1.length:Int)).bind λy9=>some (y9.1,())) e8
def yL[eg] :=fw 154 Tryz.f154 Pe [.b] (λx=>mc x.1) [jL] [CZ] (by kernel_rfl) λx=>by simp only[mc,tm];kernel_rfl
def md(a0:fH):Option (Bool×Unit):=
 br ((a0.epoch==0)&&((a0.holder==0)&&((a0.ends==0)&&true))) (some (true,())) ((eP a0.epoch 1 20).bind λy1=>br y1.1 ((eP a0.holder 0 4).bind λy2=>br y2.1 ((eP a0.ends 1 1049).bind λy3=>some (y3.1,())) (some (false,()))) (some (false,())))
def Pt[eg] :=fw 155 Tryz.f155 Rr [.b] (λx=>md x.1) [jL] [] (by kernel_rfl) λx=>by simp only[md,tm];kernel_rfl
def pA(a0:fB):Option (Bool×Unit):=
 (eP a0.rack 0 9).bind λy1=>br (!y1.1) (some (true,())) ((eP a0.capacity 0 9).bind λy2=>br (!y2.1) (some (true,())) ((eP a0.load 0 99).bind λy3=>some ((!y3.1),())))
def E6[eg] :=fw 236 Tryz.f236 [.ty (.st .place)] [.b] (λx=>pA x.1) [jL] [] (by kernel_rfl) λx=>by simp only[pA,tm];kernel_rfl
abbrev jO:LX:=⟨⟨[Ce,(1,.cl (.fc 236)),yf,yu],[],[],0,19⟩,[(.ret,⟨[tW],[],[],0,19⟩),(.ext 0,⟨[wK],[],[],0,19⟩)],[],[0,1,7,8],[4]⟩
def fj(s: (List fB×Unit×Int×Int×Unit)×Unit×Unit):jO.R:=
 br (decide (s.1.2.2.2.1<s.1.2.2.1)) (iteP (0<=s.1.2.2.2.1) ((s.1.1[s.1.2.2.2.1.toNat]?).bind λx4=>(pA x4).bind λy5=>br y5.1 (some (.inr (.inl (s.1.2.2.2,(()),(()))))) (some (.inl ((s.1.1,(),s.1.2.2.1,(IntKind.wrap .i64 (s.1.2.2.2.1+1)),()),(()),(()))))) none) (some (.inr (.inr (((),()),(()),(())))))
def ii:=hO fj
def oh[eg] :=ky Tryz.f261 [0] jO fj [E6] [] (by kernel_rfl) λs=>by simp only[fj,tm];kernel_rfl
def gv(a0:List fB):Option (Int×Unit):=
 (ii ((a0,(),(a0.length:Int),0,()),(()),(()))).bind λe6=>Sum.elim (λe6_0=>some e6_0.1) (λ_=>some ((-1),())) e6
def pB[eg] :=fw 261 Tryz.f261 Vp oI (λx=>gv x.1) [] [oh] (by kernel_rfl) λx=>by simp only[gv,tm];kernel_rfl
def fZ(a0:List fB):Option (Bool×Unit):=
 (gv a0).bind λy1=>some ((decide (y1.1≥0)),())
def nJ[eg] :=fw 235 Tryz.f235 Vp [.b] (λx=>fZ x.1) [pB] [] (by kernel_rfl) λx=>by simp only[fZ,tm];kernel_rfl
def oE(a0:List fB):Option (Bool×Unit):=
 br ((a0.length:Int)==5) ((fZ a0).bind λy1=>some ((!y1.1),())) (some (false,()))
def KU[eg] :=fw 156 Tryz.f156 Rq [.b] (λx=>oE x.1) [nJ] [] (by kernel_rfl) λx=>by simp only[oE,tm];kernel_rfl
def ly(a0:Op):Option (Bool×Unit):=
 (eP a0.client 0 2).bind λy1=>br (!y1.1) (some (false,())) ((eP a0.seq 1 99).bind λy2=>br (!y2.1) (some (false,())) ((eP a0.object 0 2).bind λy3=>br (!y3.1) (some (false,())) ((eP a0.value 0 9).bind λy4=>br (!y4.1) (some (false,())) (br (a0.kind==1) (br (a0.old==0) (some (true,())) (br (a0.kind==2) ((eP a0.old 0 9).bind λy5=>some (y5.1,())) (some (false,())))) (br (a0.kind==2) ((eP a0.old 0 9).bind λy6=>some (y6.1,())) (some (false,())))))))
def xj[eg] :=fw 133 Tryz.f133 Ks [.b] (λx=>ly x.1) [jL] [] (by kernel_rfl) λx=>by simp only[ly,tm];kernel_rfl
abbrev GY:LX:=⟨⟨[wJ,(5,.cl (.ro (.st .entry))),tF,yf],[],[],0,41⟩,[(.ret,⟨[wJ,tE],[],[],0,41⟩),(.ext 0,⟨[wJ,ye],[],[],0,41⟩)],[],[0,5,6,7],[0,2]⟩
def rN(s:VF×Unit×Unit):GY.R:=
 br (decide (s.1.2.2.2.1<s.1.2.2.1)) (iteP (0<=s.1.2.2.2.1) ((s.1.2.1[s.1.2.2.2.1.toNat]?).bind λx5=>(eP x5.epoch 1 20).bind λy6=>br (!y6.1) (some (.inr (.inl ((s.1.1,false,()),(()),(()))))) (br (decide (s.1.2.2.2.1>0)) (iteP (0<=(IntKind.wrap .i64 (s.1.2.2.2.1-1))) ((s.1.1[(IntKind.wrap .i64 (s.1.2.2.2.1-1)).toNat]?).bind λx7=>br (decide (x5.epoch<x7.epoch)) (some (.inr (.inl ((s.1.1,false,()),(()),(()))))) ((ly x5.op).bind λy8=>br (!y8.1) (some (.inr (.inl ((s.1.1,false,()),(()),(()))))) (some (.inl ((s.1.1,s.1.2.1,s.1.2.2.1,(IntKind.wrap .i64 (s.1.2.2.2.1+1)),()),(()),(())))))) none) ((ly x5.op).bind λy9=>br (!y9.1) (some (.inr (.inl ((s.1.1,false,()),(()),(()))))) (some (.inl ((s.1.1,s.1.2.1,s.1.2.2.1,(IntKind.wrap .i64 (s.1.2.2.2.1+1)),()),(()),(()))))))) none) (some (.inr (.inr ((s.1.1,(),()),(()),(())))))
def BG:=hO rN
def Pu[eg] :=ky Tryz.f207 [0] GY rN [jL,xj] [] (by kernel_rfl) λs=>by simp only[rN,tm];kernel_rfl
def rF(a0:List eA):Option (Bool×Unit):=
 (BG ((a0,a0,(a0.length:Int),0,()),(()),(()))).bind λe10=>Sum.elim (λe10_0=>some e10_0.1.2) (λe10_1=>some ((decide ((e10_1.1.1.length:Int)<=16)),())) e10
def IB[eg] :=fw 207 Tryz.f207 Bn [.b] (λx=>rF x.1) [] [Pu] (by kernel_rfl) λx=>by simp only[rF,tm];kernel_rfl
abbrev xk:LX:=⟨⟨[wk,Ag,vT,N4],[],[],0,26⟩,[(.ret,⟨[Ek],[],[],0,26⟩),(.ext 0,⟨[wK],[],[],0,26⟩)],[],[0,1,12,13],[4]⟩
def jP(s:VE×Unit×Unit):xk.R:=
 br (decide (s.1.2.2.2.1<s.1.2.2.1)) (iteP (0<=s.1.2.2.2.1) ((s.1.1[s.1.2.2.2.1.toNat]?).bind λx5=>iteP (0<=s.1.2.2.2.1) ((s.1.2.1[s.1.2.2.2.1.toNat]?).bind λx6=>br (!(x5==x6)) (some (.inr (.inl ((false,()),(()),(()))))) (some (.inl ((s.1.1,s.1.2.1,s.1.2.2.1,(IntKind.wrap .i64 (s.1.2.2.2.1+1)),()),(()),(()))))) none) none) (some (.inr (.inr (((),()),(()),(())))))
def sW:=hO jP
def E7[eg] :=ky Tryz.f63 [0] xk jP [] [] (by kernel_rfl) λs=>by simp only[jP,tm];kernel_rfl
def lH(a0:List Int)(a1:List Int):Option (Bool×Unit):=
 br (!((a0.length:Int)==(a1.length:Int))) (some (false,())) ((sW ((a0,a1,(a0.length:Int),0,()),(()),(()))).bind λe7=>Sum.elim (λe7_0=>some e7_0.1) (λ_=>some (true,())) e7)
def AB[eg] :=fw 63 Tryz.f63 HZ [.b] (λx=>lH x.1 x.2.1) [] [E7] (by kernel_rfl) λx=>by simp only[lH,tm];kernel_rfl
def lf(a0:List Int)(a1:List Int):Option (Bool×Unit):=
 (lH a0 a1).bind λy1=>some (y1.1,())
def E8[eg] :=fw 91 Tryz.f91 HZ [.b] (λx=>lf x.1 x.2.1) [AB] [] (by kernel_rfl) λx=>by simp only[lf,tm];kernel_rfl
def iA(a0:ey)(a1:ey):Option (Bool×Unit):=
 br (a0.epoch==a1.epoch) (br (a0.primary==a1.primary) ((lf a0.replicas a1.replicas).bind λy1=>br y1.1 ((lf a0.witnesses a1.witnesses).bind λy2=>some (y2.1,())) (some (false,()))) (some (false,()))) (some (false,()))
def pC[eg] :=fw 19 Tryz.f19 Vh [.b] (λx=>iA x.1 x.2.1) [E8] [] (by kernel_rfl) λx=>by simp only[iA,tm];kernel_rfl
def oF(a0:List eA):Option (Int×Unit):=
 br ((a0.length:Int)==0) (some (0,())) (iteP (0<=(IntKind.wrap .i64 ((a0.length:Int)-1))) ((a0[(IntKind.wrap .i64 ((a0.length:Int)-1)).toNat]?).bind λx1=>some (x1.epoch,())) none)
def Cy[eg] :=fw 158 Tryz.f158 Bn oI (λx=>oF x.1) [] [] (by kernel_rfl) λx=>by simp only[oF,tm];kernel_rfl
def uU(a0:ey)(a1:Int):Option (Int×Unit):=
 (je a0).bind λy1=>br (!y1.1) (some (0,())) (br (a1==a0.primary) (some (1,())) ((lw a0.replicas a1).bind λy2=>br y2.1 (some (2,())) ((lw a0.witnesses a1).bind λy3=>br y3.1 (some (3,())) (some (0,())))))
def KV[eg] :=fw 97 Tryz.f97 Vi oI (λx=>uU x.1 x.2.1) [q9,xh] [] (by kernel_rfl) λx=>by simp only[uU,tm];kernel_rfl
def xm(a0:Int)(a1:List eA):Option (Bool×Unit):=
 (rF a1).bind λy1=>br y1.1 (br (decide ((a1.length:Int)<=3)) ((eP a0 0 (IntKind.wrap .i64 (16-(a1.length:Int)))).bind λy2=>br y2.1 (br (a0==0) (some (true,())) (some (((a1.length:Int)==3),()))) (some (false,()))) (some (false,()))) (some (false,()))
def RZ[eg] :=fw 237 Tryz.f237 Vl [.b] (λx=>xm x.1 x.2.1) [IB,jL] [] (by kernel_rfl) λx=>by simp only[xm,tm];kernel_rfl
def ka(a0:eu)(a1:Int):Option (Bool×Unit):=
 (eP a0.version 1 2).bind λy1=>br (!y1.1) (some (false,())) ((eP a0.epoch 0 20).bind λy2=>br (!y2.1) (some (false,())) ((rF a0.log).bind λy3=>br (!y3.1) (some (false,())) ((rF a0.learned).bind λy4=>br (!y4.1) (some (false,())) ((eP a0.first 0 16).bind λy5=>br (!y5.1) (some (false,())) (br (decide ((IntKind.wrap .i64 (a0.first+(a0.log.length:Int)))>16)) (some (false,())) ((eP a0.commit 0 (IntKind.wrap .i64 (a0.first+(a0.log.length:Int)))).bind λy6=>br (!y6.1) (some (false,())) ((iA a0.config (⟨0,0,([]:List Int),([]:List Int)⟩:ey)).bind λy7=>br y7.1 (br (a0.first==0) (br (a0.commit==0) (some (((a0.log.length:Int)==0),())) (some (false,()))) (some (false,()))) (br (!a0.intact) (some (false,())) (br (decide (a0.epoch<a0.config.epoch)) (some (false,())) ((oF a0.log).bind λy8=>br (decide (y8.1>a0.config.epoch)) (some (false,())) ((uU a0.config a1).bind λy9=>br (y9.1==1) (some ((a0.first==0),())) (br (y9.1==2) (some ((a0.first==0),())) (br (y9.1==3) ((xm a0.first a0.log).bind λy12=>some (y12.1,())) (some (false,())))))))))))))))
def wc[eg] :=fw 157 Tryz.f157 Mf [.b] (λx=>ka x.1 x.2.1) [jL,IB,pC,Cy,KV,RZ] [] (by kernel_rfl) λx=>by simp only[ka,tm];kernel_rfl
def om(a0:eC)(a1:Int):Option (ey×Bool×Unit):=
 (mc a0).bind λy1=>br (!y1.1) (some ((⟨0,0,([]:List Int),([]:List Int)⟩:ey),false,())) ((eP a1 1 (a0.configs.length:Int)).bind λy2=>br (!y2.1) (some ((⟨0,0,([]:List Int),([]:List Int)⟩:ey),false,())) (iteP (0<=(IntKind.wrap .i64 (a1-1))) ((a0.configs[(IntKind.wrap .i64 (a1-1)).toNat]?).bind λx3=>(iw x3).bind λy4=>some (y4.1,true,())) none))
def MI[eg] :=fw 159 Tryz.f159 Rs Rm (λx=>om x.1 x.2.1) [yL,jL,vE] [] (by kernel_rfl) λx=>by simp only[om,tm];kernel_rfl
abbrev sX:LX:=⟨⟨[od,(57,.cl (.ro (.st .server))),(58,.cl (.int .i64)),(59,.cl (.int .i64))],[pH],[],0,118⟩,[(.ret,⟨[tE],[],[],0,118⟩),(.ext 0,⟨[ye],[],[],0,118⟩)],[],[1,57,58,59],[2]⟩
def iR(s: (Unit×List eu×Int×Int×Unit)×(vw×Unit)×Unit):sX.R:=
 br (decide (s.1.2.2.2.1<s.1.2.2.1)) (iteP (0<=s.1.2.2.2.1) ((s.1.2.1[s.1.2.2.2.1.toNat]?).bind λx20=>(ka x20 s.1.2.2.2.1).bind λy21=>br (!y21.1) (some (.inr (.inl ((false,()),(()),(()))))) (br (decide (x20.epoch>(s.2.1.1.2.2.2.1.length:Int))) (some (.inr (.inl ((false,()),(()),(()))))) ((oF x20.learned).bind λy22=>br (decide (y22.1>s.2.1.1.2.2.2.2.1)) (some (.inr (.inl ((false,()),(()),(()))))) ((iA x20.config (⟨0,0,([]:List Int),([]:List Int)⟩:ey)).bind λy23=>br y23.1 (some (.inl (((),s.1.2.1,s.1.2.2.1,(IntKind.wrap .i64 (s.1.2.2.2.1+1)),()),s.2.1,(())))) ((om (⟨s.2.1.1.2.2.2.1,s.2.1.1.2.2.2.2.1⟩:eC) x20.config.epoch).bind λy24=>br (!y24.2.1) (some (.inr (.inl ((false,()),(()),(()))))) ((iA y24.1 x20.config).bind λy25=>br (!y25.1) (some (.inr (.inl ((false,()),(()),(()))))) (br (decide (x20.config.epoch>s.2.1.1.2.2.2.2.1)) (some (.inr (.inl ((false,()),(()),(()))))) (some (.inl (((),s.1.2.1,s.1.2.2.1,(IntKind.wrap .i64 (s.1.2.2.2.1+1)),()),s.2.1,(()))))))))))) none) (some (.inr (.inr (((),()),(()),(())))))
def oo:=hO iR
def zI[eg] :=ky Tryz.f49 [0] sX iR [wc,Cy,pC,MI] [] (by kernel_rfl) λs=>by simp only[iR,tm];kernel_rfl
def lg(a0:eh):Option (Bool×Unit):=
 (eP a0.now 0 999).bind λy1=>br (!y1.1) (some (false,())) (br (!((a0.servers.length:Int)==5)) (some (false,())) ((pZ a0.sides).bind λy2=>br (!y2.1) (some (false,())) ((mc a0.master).bind λy3=>br (!y3.1) (some (false,())) ((md a0.lease).bind λy4=>br (!y4.1) (some (false,())) ((oE a0.places).bind λy5=>br (!y5.1) (some (false,())) ((eP a0.masterUp 0 3).bind λy6=>br (!y6.1) (some (false,())) (br (decide (a0.lease.epoch>a0.master.activated)) (some (false,())) ((oo (((),a0.servers,(a0.servers.length:Int),0,()),((a0.now,a0.servers,a0.sides,a0.master.configs,a0.master.activated,a0.masterUp,a0.lease.epoch,a0.lease.holder,a0.lease.ends,a0.places,()),()),(()))).bind λe26=>Sum.elim (λe26_0=>some e26_0.1) (λ_=>some (true,())) e26))))))))
def BH[eg] :=fw 49 Tryz.f49 FI [.b] (λx=>lg x.1) [jL,MG,yL,Pt,KU] [zI] (by kernel_rfl) λx=>by simp only[lg,tm];kernel_rfl
def im(a0:eh)(a1:Int):Option (Bool×Unit):=
 (lg a0).bind λy1=>br y1.1 ((eP a1 0 4).bind λy2=>some (y2.1,())) (some (false,()))
def yM[eg] :=fw 132 Tryz.f132 tc [.b] (λx=>im x.1 x.2.1) [BH,jL] [] (by kernel_rfl) λx=>by simp only[im,tm];kernel_rfl
def mN(a0:eu)(a1:Int):Option (Bool×Unit):=
 (ka a0 a1).bind λy1=>br y1.1 (br a0.up ((uU a0.config a1).bind λy2=>br (y2.1==1) (some ((a0.epoch==a0.config.epoch),())) (some (false,()))) (some (false,()))) (some (false,()))
def E9[eg] :=fw 178 Tryz.f178 Mf [.b] (λx=>mN x.1 x.2.1) [wc,KV] [] (by kernel_rfl) λx=>by simp only[mN,tm];kernel_rfl
def iW(a0:eh)(a1:Int):Option (Bool×Unit):=
 (im a0 a1).bind λy1=>br y1.1 (iteP (0<=a1) ((a0.servers[a1.toNat]?).bind λx2=>(mN x2 a1).bind λy3=>some (y3.1,())) none) (some (false,()))
def yN[eg] :=fw 67 Tryz.f67 tc [.b] (λx=>iW x.1 x.2.1) [yM,E9] [] (by kernel_rfl) λx=>by simp only[iW,tm];kernel_rfl
def tK(a0:eA)(a1:Int)(a2:Int):Option (Bool×Unit):=
 br (a0.op.client==a1) (some ((a0.op.seq==a2),())) (some (false,()))
def KW[eg] :=fw 145 Tryz.f145 [.ty (.st .entry),.pr (.i .i64),.pr (.i .i64)] [.b] (λx=>tK x.1 x.2.1 x.2.2.1) [] [] (by kernel_rfl) λx=>by simp only[tK,tm];kernel_rfl
abbrev kI:LX:=⟨⟨[wJ,(1,.fn 145 [.pro (.i .i64),.pro (.i .i64)]),yf,yu],[],[],0,19⟩,[(.ret,⟨[tW],[],[],0,19⟩),(.ext 0,⟨[wK],[],[],0,19⟩)],[],[0,1,7,8],[4]⟩
def ft(s: (List eA×(Int×Int×Unit)×Int×Int×Unit)×Unit×Unit):kI.R:=
 br (decide (s.1.2.2.2.1<s.1.2.2.1)) (iteP (0<=s.1.2.2.2.1) ((s.1.1[s.1.2.2.2.1.toNat]?).bind λx6=>(tK x6 s.1.2.1.1 s.1.2.1.2.1).bind λy7=>br y7.1 (some (.inr (.inl (s.1.2.2.2,(()),(()))))) (some (.inl ((s.1.1,s.1.2.1,s.1.2.2.1,(IntKind.wrap .i64 (s.1.2.2.2.1+1)),()),(()),(()))))) none) (some (.inr (.inr (((),()),(()),(())))))
def iL:=hO ft
def pJ[eg] :=ky Tryz.f144 [0] kI ft [KW] [] (by kernel_rfl) λs=>by simp only[ft,tm];kernel_rfl
def gV(a0:List eA)(a1_0:Int)(a1_1:Int):Option (Int×Unit):=
 (iL ((a0,(a1_0,a1_1,()),(a0.length:Int),0,()),(()),(()))).bind λe8=>Sum.elim (λe8_0=>some e8_0.1) (λ_=>some ((-1),())) e8
def qO[eg] :=fw 144 Tryz.f144 [.ty (.ls (.st .entry)),.fn 145 [.i .i64,.i .i64]] oI (λx=>gV x.1 x.2.1.1 x.2.1.2.1) [] [pJ] (by kernel_rfl) λx=>by simp only[gV,tm];kernel_rfl
def sY(a0:List eA)(a1:Int)(a2:Int):Option (Int×Unit):=
 (gV a0 a1 a2).bind λy1=>some (y1.1,())
def KX[eg] :=fw 44 Tryz.f44 Rt oI (λx=>sY x.1 x.2.1 x.2.2.1) [qO] [] (by kernel_rfl) λx=>by simp only[sY,tm];kernel_rfl
def pD:Option (eK×Unit):=
 iteP (0<=(3:Int)/\(3:Int)=3/\3*((8:Nat):Int)<=2 ^ 40) (some ((⟨(List.replicate (3:Int).toNat (0:Int)),([]:List en)⟩:eK),())) none
def IC[eg] :=fw 217 Tryz.f217 [] Ul (λ_=>pD) [] [] (by kernel_rfl) λx=>by simp only[pD,tm,-eq_self];kernel_rfl
def qb(a0:List en):Option ((List en)×Unit):=iteP (a0.length*32<=2 ^ 40) (some (a0,())) none
def BI[eg] :=Yv 252 Tryz.f252 (.st .session) 32 qb (by kernel_rfl) (λ_=>rfl) λ_=>by kernel_rfl
def nK(a0:eK):Option (eK×Unit):=
 (jl a0.objects).bind λy1=>(qb a0.sessions).bind λy2=>some ((⟨y1.1,y2.1⟩:eK),())
def Gc[eg] :=fw 218 Tryz.f218 NU Ul (λx=>nK x.1) [vF,BI] [] (by kernel_rfl) λx=>by simp only[nK,tm];kernel_rfl
abbrev yO:LX:=⟨⟨[qX,uw,(9,.cl (.ro (.st .session))),El,GN],[GP],[],0,22⟩,[(.ret,⟨[uw,(5,.cl (.bl))],[GP],[],0,22⟩),(.ext 0,⟨[uw,RC],[GP],[],0,22⟩)],[],[1,4,9,10,11],[4,5]⟩
def me(s: (Int×Unit×List en×Int×Int×Unit)×(Vv×Unit)×Unit):yO.R:=
 br (decide (s.1.2.2.2.2.1<s.1.2.2.2.1)) (iteP (0<=s.1.2.2.2.2.1) ((s.1.2.2.1[s.1.2.2.2.2.1.toNat]?).bind λx9=>br (x9.client==s.1.1) (some (.inr (.inl (((),true,()),((x9.client,x9.seq,x9.result.done,x9.result.value,()),()),(()))))) (some (.inl ((s.1.1,(),s.1.2.2.1,s.1.2.2.2.1,(IntKind.wrap .i64 (s.1.2.2.2.2.1+1)),()),s.2.1,(()))))) none) (some (.inr (.inr (((),(),()),s.2.1,(())))))
def uc:=hO me
def Gd[eg] :=ky Tryz.f219 [0] yO me [] [] (by kernel_rfl) λs=>by simp only[me,tm];kernel_rfl
def qP(a0:eK)(a1:Int):Option (en×Bool×Unit):=
 (uc ((a1,(),a0.sessions,(a0.sessions.length:Int),0,()),((0,0,false,0,()),()),(()))).bind λe10=>Sum.elim (λe10_0=>some ((⟨e10_0.2.1.1.1,e10_0.2.1.1.2.1,(⟨e10_0.2.1.1.2.2.1,e10_0.2.1.1.2.2.2.1⟩:Result)⟩:en),e10_0.1.2)) (λ_=>some ((⟨0,0,(⟨false,0⟩:Result)⟩:en),false,())) e10
def KY[eg] :=fw 219 Tryz.f219 Ru [.st .session,.b] (λx=>qP x.1 x.2.1) [] [Gd] (by kernel_rfl) λx=>by simp only[qP,tm];kernel_rfl
def kN(a0:Int):Option (Bool×Unit):=
 (eP a0 0 9).bind λy1=>some ((!y1.1),())
def yi[eg] :=fw 253 Tryz.f253 FH [.b] (λx=>kN x.1) [jL] [] (by kernel_rfl) λx=>by simp only[kN,tm];kernel_rfl
abbrev i8:LX:=⟨⟨[wk,(1,.cl (.fc 253)),yf,yu],[],[],0,19⟩,[(.ret,⟨[tW],[],[],0,19⟩),(.ext 0,⟨[wK],[],[],0,19⟩)],[],[0,1,7,8],[4]⟩
def eY(s:VD×Unit×Unit):i8.R:=
 br (decide (s.1.2.2.2.1<s.1.2.2.1)) (iteP (0<=s.1.2.2.2.1) ((s.1.1[s.1.2.2.2.1.toNat]?).bind λx4=>(kN x4).bind λy5=>br y5.1 (some (.inr (.inl (s.1.2.2.2,(()),(()))))) (some (.inl ((s.1.1,(),s.1.2.2.1,(IntKind.wrap .i64 (s.1.2.2.2.1+1)),()),(()),(()))))) none) (some (.inr (.inr (((),()),(()),(())))))
def gO:=hO eY
def nj[eg] :=ky Tryz.f179 [0] i8 eY [yi] [] (by kernel_rfl) λs=>by simp only[eY,tm];kernel_rfl
def f7(a0:List Int):Option (Int×Unit):=
 (gO ((a0,(),(a0.length:Int),0,()),(()),(()))).bind λe6=>Sum.elim (λe6_0=>some e6_0.1) (λ_=>some ((-1),())) e6
def nL[eg] :=fw 179 Tryz.f179 Vq oI (λx=>f7 x.1) [] [nj] (by kernel_rfl) λx=>by simp only[f7,tm];kernel_rfl
def fK(a0:List Int):Option (Bool×Unit):=
 (f7 a0).bind λy1=>some ((decide (y1.1≥0)),())
def mO[eg] :=fw 68 Tryz.f68 Vq [.b] (λx=>fK x.1) [nL] [] (by kernel_rfl) λx=>by simp only[fK,tm];kernel_rfl
abbrev sZ:LX:=⟨⟨[od,(15,.cl (.ro (.st .session))),RH,RI],[Ky],[],0,56⟩,[(.ret,⟨[tE],[],[],0,56⟩),(.ext 0,⟨[ye],[],[],0,56⟩)],[],[1,15,16,17],[2]⟩
def iT(s: (Unit×List en×Int×Int×Unit)×(Un×Unit)×Unit):sZ.R:=
 br (decide (s.1.2.2.2.1<s.1.2.2.1)) (iteP (0<=s.1.2.2.2.1) ((s.1.2.1[s.1.2.2.2.1.toNat]?).bind λx7=>(eP x7.client 0 2).bind λy8=>br (!y8.1) (some (.inr (.inl ((false,()),(()),(()))))) (br (decide (s.1.2.2.2.1>0)) (iteP (0<=(IntKind.wrap .i64 (s.1.2.2.2.1-1))) ((s.2.1.1.2.1[(IntKind.wrap .i64 (s.1.2.2.2.1-1)).toNat]?).bind λx9=>br (decide (x7.client<=x9.client)) (some (.inr (.inl ((false,()),(()),(()))))) ((eP x7.seq 1 99).bind λy10=>br (!y10.1) (some (.inr (.inl ((false,()),(()),(()))))) ((eP x7.result.value 0 9).bind λy11=>br (!y11.1) (some (.inr (.inl ((false,()),(()),(()))))) (some (.inl (((),s.1.2.1,s.1.2.2.1,(IntKind.wrap .i64 (s.1.2.2.2.1+1)),()),s.2.1,(()))))))) none) ((eP x7.seq 1 99).bind λy12=>br (!y12.1) (some (.inr (.inl ((false,()),(()),(()))))) ((eP x7.result.value 0 9).bind λy13=>br (!y13.1) (some (.inr (.inl ((false,()),(()),(()))))) (some (.inl (((),s.1.2.1,s.1.2.2.1,(IntKind.wrap .i64 (s.1.2.2.2.1+1)),()),s.2.1,(())))))))) none) (some (.inr (.inr (((),()),(()),(())))))
def oq:=hO iT
def zJ[eg] :=ky Tryz.f220 [0] sZ iT [jL] [] (by kernel_rfl) λs=>by simp only[iT,tm];kernel_rfl
def lh(a0:eK):Option (Bool×Unit):=
 br (!((a0.objects.length:Int)==3)) (some (false,())) ((fK a0.objects).bind λy1=>br y1.1 (some (false,())) ((oq (((),a0.sessions,(a0.sessions.length:Int),0,()),((a0.objects,a0.sessions,()),()),(()))).bind λe14=>Sum.elim (λe14_0=>some e14_0.1) (λ_=>some (true,())) e14))
def BJ[eg] :=fw 220 Tryz.f220 NU [.b] (λx=>lh x.1) [mO] [zJ] (by kernel_rfl) λx=>by simp only[lh,tm];kernel_rfl
def ku(a0:List en)(a1:Int)(a2:List en):Option ((List en)×Unit):=Rl 32 a0 a1 a2
section
open Go.RowKit
set_option maxHeartbeats 4000000 in
set_option maxRecDepth 100000 in
theorem uV(ab:Option Addr)(n c:Nat)(ad:Addr)(vc:Nat)(w w':World)(v:Value)(hnc:n<=c)(hn0:ab=none->n=0)
  (hr: ∀ty,(Builtin.append_ #[125,125] ty #[.slice ab n c,.slice (some ad) 1 vc]).run Tryz.prog w= .ok v w'):
  Calls Tryz.prog 221 #[.slice ab n c,.int .i64 n,.slice (some ad) 1 vc] w λe w1=>e= .returned v/\w1=w':=by
 go_enter Tryz.func221,Tryz.ntmps221
 cases ab with
 |none=>
  obtain rfl:=hn0 rfl
  go_wp2_with (at_builtin;refine Lib.wpList_append_run _ rfl _ _ _ _ rfl _ _ rfl rfl _ _ (hr _) ?_)
  all_goals (go_ret;exact⟨rfl,rfl⟩)
 |some a=>
  obtain⟨b,o,sp⟩:=a
  go_wp2_with (at_builtin;refine Lib.wpList_append_run _ rfl _ _ _ _ rfl _ _ rfl rfl _ _ (hr _) ?_)
  all_goals (go_ret;exact⟨rfl,rfl⟩)
set_option maxHeartbeats 4000000 in
set_option maxRecDepth 100000 in
theorem te(b n c i:Nat)(ad:Addr)(vc:Nat)(w W1 W2:World)(u1 u2:Value)(hi:i<n)(hnc:n+1<=c)(hn:n<=2 ^ 40)(hne:ad.block≠b)
  (hA: ∃ra ta fa,w.heap[ad.block]? =some (.cells ra ta fa)/\0<ra.size) (hB: ∃rb tb,w.heap[b]? =some (.cells rb tb (0,0)))
  (hcp1: ∀ty dc sc,(Builtin.copy_ #[125,125] ty #[.slice (some ⟨b,(i+1)*4,none⟩) (n-i) dc,.slice (some ⟨b,i*4,none⟩) (n+1-i) sc]).run Tryz.prog w.drew= .ok u1 W1)
  (hcp2: ∀ty dc,(Builtin.copy_ #[125,125] ty #[.slice (some ⟨b,i*4,none⟩) (n+1-i) dc,.slice (some ad) 1 vc]).run Tryz.prog W1= .ok u2 W2):
  Calls Tryz.prog 221 #[.slice (some ⟨b,0,none⟩) n c,.int .i64 i,.slice (some ad) 1 vc] w λe w1=>e= .returned (.slice (some ⟨b,0,none⟩) (n+1) c)/\w1=W2:=by
 obtain⟨ra,ta,fa,hA1,hA2⟩:=hA;obtain⟨rb,tb,hB1⟩:=hB
 have hov: ∀lb cb,(callFunc 254 #[.slice (some ad) 1 vc,.slice (some ⟨b,(i+1)*4,none⟩) lb cb]).run Tryz.prog w= .ok (.value (.bool false)) w:=λlb cb=>by
  rw[run_callFunc_extern Tryz.func254 (by kernel_rfl) (by kernel_rfl) (by kernel_rfl) (e:=Extern.SlicesOverlaps.overlaps #[125,125] #[4]) (by kernel_rfl),
   Hq w 125 4 171 (by kernel_rfl) (i:=Tryz.t171) (by kernel_rfl) ad ⟨b,(i+1)*4,none⟩ 1 vc lb cb hne hA1 hA2 hB1]
  rfl
 have hz2: ¬ ((i:Int)=(n:Int)):=by omega
 have hw1:IntKind.i64.wrap ((i:Int)+1)=(i:Int)+1:=by rw[IntKind.wrap_i64];omega
 have hw2:IntKind.i64.wrap ((n:Int)+1)=(n:Int)+1:=by rw[IntKind.wrap_i64];omega
 have hb1: (0:Int)<=(i:Int)+1:=by omega
 have hin:i<=n:=by omega
 have htn: ((i:Int)+1).toNat=i+1:=by omega
 have htn2: ((n:Int)+1).toNat=n+1:=by omega
 have hb2: ¬ (c=i+1):=by omega
 have hb3: (i:Int)<=(n:Int)+1:=by omega
 have hb4: ¬ (c=i):=by omega
 have mixed:Tryz.prog.follows .mixedOrders=true:=lP;clear hA1 hA2 hB1 hne hn
 go_enter Tryz.func221,Tryz.ntmps221
 go_wp2_with (simp only[hov])
 go_region_law_o (refine GM rfl _ _ 125 125 rfl _ _ (by simp[Act.eval,Act.put]) (by simp[Act.eval,Act.put]) (hcp1 _ _ _) ?_)
 go_wp2_with (refine NQ _ rfl _ _ 125 125 rfl _ _ rfl rfl (hcp2 _ _) ?_)
 go_ret
 exact⟨rfl,rfl⟩
set_option maxHeartbeats 4000000 in
set_option maxRecDepth 100000 in
theorem ud(b g n c G i:Nat)(ad:Addr)(vc:Nat)(w W0 W1 W2:World)(u1 u2:Value)(hi:i<n)(hnn:n<=c)(hnc:c<n+1)(hG:n+1<=G)(hn:n<=2 ^ 40)
  (hrz: ∀ty,(Builtin.append_ #[125,3] ty #[.slice (some ⟨b,0,none⟩) i c,.int .i64 ((n:Int)+1-(i:Int))]).run Tryz.prog w= .ok (.slice (some ⟨g,0,none⟩) (n+1) G) W0)
  (hcp1: ∀ty dc,(Builtin.copy_ #[125,125] ty #[.slice (some ⟨g,i*4,none⟩) (n+1-i) dc,.slice (some ad) 1 vc]).run Tryz.prog W0= .ok u1 W1)
  (hcp2: ∀ty dc sc,(Builtin.copy_ #[125,125] ty #[.slice (some ⟨g,(i+1)*4,none⟩) (n-i) dc,.slice (some ⟨b,i*4,none⟩) (n-i) sc]).run Tryz.prog W1.drew= .ok u2 W2):
  Calls Tryz.prog 221 #[.slice (some ⟨b,0,none⟩) n c,.int .i64 i,.slice (some ad) 1 vc] w λe w1=>e= .returned (.slice (some ⟨g,0,none⟩) (n+1) G)/\w1=W2:=by
 have hz2: ¬ ((i:Int)=(n:Int)):=by omega
 have hw1:IntKind.i64.wrap ((i:Int)+1)=(i:Int)+1:=by rw[IntKind.wrap_i64];omega
 have hw2:IntKind.i64.wrap ((n:Int)+1)=(n:Int)+1:=by rw[IntKind.wrap_i64];omega
 have hw3:IntKind.i64.wrap ((n:Int)+1-(i:Int))=(n:Int)+1-(i:Int):=by rw[IntKind.wrap_i64];omega
 have hb1: (0:Int)<=(i:Int)+1:=by omega
 have hin:i<=n:=by omega
 have htn: ((i:Int)+1).toNat=i+1:=by omega
 have hb2: ¬ (G=i+1):=by omega
 have hb3: (i:Int)<=(n:Int)+1:=by omega
 have hb4: ¬ (c=i):=by omega
 have hb5: ¬ (G=i):=by omega
 have hb6: (c:Int)< (n:Int)+1:=by omega
 have mixed:Tryz.prog.follows .mixedOrders=true:=lP;clear hn
 go_enter Tryz.func221,Tryz.ntmps221
 go_wp2_with (first
  | (at_builtin;refine Lib.wpList_append_run _ rfl _ _ _ _ rfl _ _ rfl rfl _ _ (hrz _) ?_)
  | (refine NQ _ rfl _ _ 125 125 rfl _ _ rfl rfl (hcp1 _ _) ?_))
 go_region_law_o (refine GM rfl _ _ 125 125 rfl _ _ (by simp[Act.eval,Act.put]) (by simp[Act.eval,Act.put]) (hcp2 _ _ _) ?_)
 go_wp2
 go_ret
 exact⟨rfl,rfl⟩
theorem vG:Hs Tryz.prog 221 125 171 3 4 Tryz.t171 (.agg #[.int .i64 0,.int .i64 0,.bool false,.int .i64 0]) where
 enter:=Af Tryz.func221 (by kernel_rfl) rfl
 ht:=by kernel_rfl
 hi:=by kernel_rfl
 hz:=by kernel_rfl
 zs:=by kernel_rfl
 z1:=by decide
 hs:=by kernel_rfl
 pos:=by decide
 htn:=by kernel_rfl
 toEnd:=λab n c ad vc w w' v h1 h2 _ h4=>uV ab n c ad vc w w' v h1 h2 h4
 shift:=te
 grow:=ud
end
def xn[eg] :=WF vG (.st .session) rfl rfl 32 (by kernel_rfl) (by decide)
abbrev AD:LX:=⟨⟨[Ai,yt,NW,Ku,Cg,NX,vT],[N7,Kz,KA,KB,KA],Kx,0,120⟩,[(.ext 1,⟨[Ai,yt,NW,Ku,Cg,NX,vT],[N7,Kz,KA,KB,KA],Kx,0,120⟩)],[],[3,4,5,7,9,11,12],[3,4,5,7,9,11,12]⟩
def vH(s:Vw×(Vx×H0×Uo×H0×Uo×Unit)×List Int×List en×Unit):AD.R:=
 br (decide (s.1.2.2.2.2.2.2.1< (s.2.2.2.1.length:Int))) (iteP (0<=s.1.2.2.2.2.2.2.1/\s.1.2.2.2.2.2.2.1< (s.2.2.2.1.length:Int)) ((s.2.2.2.1[s.1.2.2.2.2.2.2.1.toNat]?).bind λx22=>br (decide (x22.client<s.2.1.1.1)) (some (.inl (((),(),(),(),s.1.2.2.2.2.1,(),(IntKind.wrap .i64 (s.1.2.2.2.2.2.2.1+1)),()),s.2))) (some (.inr s))) none) (some (.inr s))
def vI:=hO vH
def IE[eg] :=ky Tryz.f135 [0] AD vH [] [] (by kernel_rfl) λs=>by simp only[vH,tm];kernel_rfl
def rO(a0:eK)(a1:Op):Option (eK×Result×Bool×Unit):=
 (nK a0).bind λy1=>(qP a0 a1.client).bind λy2=>(lh a0).bind λy3=>br (!y3.1) (some (y1.1,(⟨false,0⟩:Result),false,())) ((ly a1).bind λy4=>br (!y4.1) (some (y1.1,(⟨false,0⟩:Result),false,())) (let j54:Option (eK×Result×Bool×Unit):=iteP (0<=a1.object) ((a0.objects[a1.object.toNat]?).bind λx5=>br (a1.kind==1) (iteP (0<=a1.object/\a1.object< (y1.1.objects.length:Int)) ((y1.1.objects[a1.object.toNat]?).bind λ_=>(vI (((),(),(),(),y2.2.1,(),0,()),((a1.client,a1.seq,a1.kind,a1.object,a1.old,a1.value,()),((),(),()),(false,0,()),((),(),()),(true,x5,()),()),(y1.1.objects.set a1.object.toNat a1.value),y1.1.sessions,())).bind λe23=>let j28 (p25:List en):Option (eK×Result×Bool×Unit):=iteP (0<=e23.1.2.2.2.2.2.2.1/\e23.1.2.2.2.2.2.2.1< (p25.length:Int)) ((p25[e23.1.2.2.2.2.2.2.1.toNat]?).bind λ_=>some ((⟨e23.2.2.1,(p25.set e23.1.2.2.2.2.2.2.1.toNat (⟨e23.2.1.1.1,e23.2.1.1.2.1,(⟨e23.2.1.2.2.2.2.1.1,e23.2.1.2.2.2.2.1.2.1⟩:Result)⟩:en))⟩:eK),(⟨e23.2.1.2.2.2.2.1.1,e23.2.1.2.2.2.2.1.2.1⟩:Result),true,())) none;br (!e23.1.2.2.2.2.1) ((ku e23.2.2.2.1 e23.1.2.2.2.2.2.2.1 ([(⟨0,0,(⟨false,0⟩:Result)⟩:en)]:List en)).bind λy24=>j28 y24.1) (j28 e23.2.2.2.1)) none) (let j53 (p31:List Int):Option (eK×Result×Bool×Unit):=(vI (((),(),(),(),y2.2.1,(),0,()),((a1.client,a1.seq,a1.kind,a1.object,a1.old,a1.value,()),((),(),()),(false,0,()),((),(),()),((x5==a1.old),x5,()),()),p31,y1.1.sessions,())).bind λe47=>let j52 (p49:List en):Option (eK×Result×Bool×Unit):=iteP (0<=e47.1.2.2.2.2.2.2.1/\e47.1.2.2.2.2.2.2.1< (p49.length:Int)) ((p49[e47.1.2.2.2.2.2.2.1.toNat]?).bind λ_=>some ((⟨e47.2.2.1,(p49.set e47.1.2.2.2.2.2.2.1.toNat (⟨e47.2.1.1.1,e47.2.1.1.2.1,(⟨e47.2.1.2.2.2.2.1.1,e47.2.1.2.2.2.2.1.2.1⟩:Result)⟩:en))⟩:eK),(⟨e47.2.1.2.2.2.2.1.1,e47.2.1.2.2.2.2.1.2.1⟩:Result),true,())) none;br (!e47.1.2.2.2.2.1) ((ku e47.2.2.2.1 e47.1.2.2.2.2.2.2.1 ([(⟨0,0,(⟨false,0⟩:Result)⟩:en)]:List en)).bind λy48=>j52 y48.1) (j52 e47.2.2.2.1);br (x5==a1.old) (iteP (0<=a1.object/\a1.object< (y1.1.objects.length:Int)) ((y1.1.objects[a1.object.toNat]?).bind λ_=>j53 (y1.1.objects.set a1.object.toNat a1.value)) none) (j53 y1.1.objects))) none;br y2.2.1 (br (decide (y2.1.seq>a1.seq)) (some (y1.1,(⟨false,0⟩:Result),false,())) (br y2.2.1 (br (y2.1.seq==a1.seq) (some (y1.1,y2.1.result,true,())) (j54)) (j54))) (br y2.2.1 (br (y2.1.seq==a1.seq) (some (y1.1,y2.1.result,true,())) (j54)) (j54))))
def GZ[eg] :=fw 135 Tryz.f135 Vj Ve (λx=>rO x.1 x.2.1) [Gc,KY,BJ,xj,xn] [IE] (by kernel_rfl) λx=>by simp only[rO,tm];kernel_rfl
abbrev yP:LX:=⟨⟨[ut,yt,(12,.cl (.ro (.st .entry))),N4,(14,.cl (.int .i64))],[Kz,KB],Kx,0,28⟩,[(.ext 0,⟨[ut,yt],[Kz,KB],Kx,0,28⟩)],[],[2,4,12,13,14],[2,4]⟩
def mf(s: (Unit×Unit×List eA×Int×Int×Unit)×(H0×H0×Unit)×List Int×List en×Unit):yP.R:=
 br (decide (s.1.2.2.2.2.1<s.1.2.2.2.1)) (iteP (0<=s.1.2.2.2.2.1) ((s.1.2.2.1[s.1.2.2.2.2.1.toNat]?).bind λx8=>(rO (⟨s.2.2.1,s.2.2.2.1⟩:eK) x8.op).bind λy9=>some (.inl (((),(),s.1.2.2.1,s.1.2.2.2.1,(IntKind.wrap .i64 (s.1.2.2.2.2.1+1)),()),(((),(),()),((),(),()),()),y9.1.objects,y9.1.sessions,()))) none) (some (.inr (((),(),()),s.2)))
def yQ:=hO mf
def Ge[eg] :=ky Tryz.f134 [0] yP mf [GZ] [] (by kernel_rfl) λs=>by simp only[mf,tm];kernel_rfl
def qQ(a0:List eA):Option (eK×Bool×Unit):=
 (rF a0).bind λy1=>br (!y1.1) (some ((⟨([]:List Int),([]:List en)⟩:eK),false,())) ((pD).bind λy2=>(yQ (((),(),a0,(a0.length:Int),0,()),(((),(),()),((),(),()),()),y2.1.objects,y2.1.sessions,())).bind λe10=>some ((⟨e10.2.2.1,e10.2.2.2.1⟩:eK),true,()))
def KZ[eg] :=fw 134 Tryz.f134 Bn [.st .machine,.b] (λx=>qQ x.1) [IB,IC] [Ge] (by kernel_rfl) λx=>by simp only[qQ,tm];kernel_rfl
def qt(a0:Op):Option (Bool×Unit):=
 some ((a0.kind==2),())
def Gf[eg] :=fw 136 Tryz.f136 Ks [.b] (λx=>qt x.1) [] [] (by kernel_rfl) λx=>by simp only[qt,tm];kernel_rfl
def mP(a1:Int):Option ((List Int)×Unit):=
 br (decide (a1<0)) (none) (br (decide ((IntKind.wrap .i64 (a1-(IntKind.wrap .i64 (0-0))))>0)) (iteP ((0:Int)=0/\(0:Int)=0) (iteP (0< (IntKind.wrap .i64 (a1-(IntKind.wrap .i64 (0-0))))/\(IntKind.wrap .i64 (a1-(IntKind.wrap .i64 (0-0))))*((8:Nat):Int)<=2 ^ 40) (iteP (0<=(0:Int)/\(0:Int)<=(0:Int)/\(0:Int)<=(((IntKind.wrap .i64 (a1-(IntKind.wrap .i64 (0-0)))).toNat:Nat):Int)) (iteP ((0+(0:Int).toNat)=0/\((0:Int).toNat-(0:Int).toNat)<=(List.replicate (IntKind.wrap .i64 (a1-(IntKind.wrap .i64 (0-0)))).toNat (0:Int)).length) (some (((List.replicate (IntKind.wrap .i64 (a1-(IntKind.wrap .i64 (0-0)))).toNat (0:Int)).take ((0:Int).toNat-(0:Int).toNat)),())) (iteP ((0+(0:Int).toNat)+((0:Int).toNat-(0:Int).toNat)<=(List.replicate (IntKind.wrap .i64 (a1-(IntKind.wrap .i64 (0-0)))).toNat (0:Int)).length) (some ((((List.replicate (IntKind.wrap .i64 (a1-(IntKind.wrap .i64 (0-0)))).toNat (0:Int)).drop (0+(0:Int).toNat)).take ((0:Int).toNat-(0:Int).toNat)),())) none)) none) none) none) (some (([]:List Int),())))
def Fa[eg] :=fw 262 Tryz.f262 [.nl,.ty (.i .i64)] pG (λx=>mP x.2.1) [] [] (by kernel_rfl) λx=>by simp only[mP,tm,-eq_self];kernel_rfl
abbrev wd:LX:=⟨⟨[(0,.cl (.ro (.ls (.i .i64)))),vx,(9,.cl (.ro (.ls (.i .i64)))),El,GN],[],[],0,36⟩,[(.ext 0,⟨[(0,.cl (.ro (.ls (.i .i64)))),vx],[],[],0,36⟩)],[],[0,3,9,10,11],[0,3]⟩
def kb(s: (List (List Int)×Int×List (List Int)×Int×Int×Unit)×Unit×Unit):wd.R:=
 br (decide (s.1.2.2.2.2.1<s.1.2.2.2.1)) (iteP (0<=s.1.2.2.2.2.1) ((s.1.2.2.1[s.1.2.2.2.2.1.toNat]?).bind λx6=>br (decide ((IntKind.wrap .i64 (s.1.2.1+(x6.length:Int)))<0)) (none) (some (.inl ((s.1.1,(IntKind.wrap .i64 (s.1.2.1+(x6.length:Int))),s.1.2.2.1,s.1.2.2.2.1,(IntKind.wrap .i64 (s.1.2.2.2.2.1+1)),()),(()),(()))))) none) (some (.inr ((s.1.1,s.1.2.1,()),(()),(()))))
def we:=hO kb
def C0[eg] :=ky Tryz.f239 [0] wd kb [] [] (by kernel_rfl) λs=>by simp only[kb,tm];kernel_rfl
abbrev uW:LX:=⟨⟨[NY,(25,.cl (.ro (.ls (.i .i64)))),(26,.cl (.int .i64)),(27,.cl (.int .i64))],[],lq,0,36⟩,[(.ext 2,⟨[NY],[],lq,0,36⟩)],[],[6,25,26,27],[6]⟩
def jB(s: (Unit×List (List Int)×Int×Int×Unit)×Unit×List Int×Unit):uW.R:=
 br (decide (s.1.2.2.2.1<s.1.2.2.1)) (iteP (0<=s.1.2.2.2.1) ((s.1.2.1[s.1.2.2.2.1.toNat]?).bind λx13=>iteP ((s.2.2.1++x13).length*8<=2 ^ 40) (some (.inl (((),s.1.2.1,s.1.2.2.1,(IntKind.wrap .i64 (s.1.2.2.2.1+1)),()),(()),(s.2.2.1++x13),()))) none) none) (some (.inr (((),()),(()),s.2.2)))
def uX:=hO jB
def BK[eg] :=ky Tryz.f239 [1] uW jB [] [] (by kernel_rfl) λs=>by simp only[jB,tm];kernel_rfl
def nM(a0:List (List Int)):Option ((List Int)×Unit):=
 (we ((a0,0,a0,(a0.length:Int),0,()),(()),(()))).bind λe7=>(mP e7.1.2.1).bind λy8=>(uX (((),e7.1.1,(e7.1.1.length:Int),0,()),(()),y8.1,())).bind λe14=>some e14.2.2
def Gg[eg] :=fw 239 Tryz.f239 [.ty (.ls (.ls (.i .i64)))] pG (λx=>nM x.1) [Fa] [C0,BK] (by kernel_rfl) λx=>by simp only[nM,tm];kernel_rfl
def mQ(a0:List Int)(a1:List Int):Option ((List Int)×Unit):=
 (nM ([a0,a1]:List (List Int))).bind λy1=>(lx y1.1).bind λy2=>some (y2.1,())
def Fb[eg] :=fw 180 Tryz.f180 HZ pG (λx=>mQ x.1 x.2.1) [Gg,Cx] [] (by kernel_rfl) λx=>by simp only[mQ,tm];kernel_rfl
def qR(a0:ey):Option ((List Int)×Unit):=
 (je a0).bind λy1=>br (!y1.1) (some (([]:List Int),())) ((mQ a0.replicas a0.witnesses).bind λy2=>some (y2.1,()))
def K0[eg] :=fw 69 Tryz.f69 Me pG (λx=>qR x.1) [q9,Fb] [] (by kernel_rfl) λx=>by simp only[qR,tm];kernel_rfl
abbrev wg:LX:=⟨⟨[ut,so,(18,.cl (.own 0 (.i .i64))),(19,.cl (.int .i64)),(20,.cl (.int .i64))],[pH],lq,0,34⟩,[(.ext 0,⟨[so],[],[],0,34⟩)],[],[2,5,18,19,20],[5]⟩
def ke(s: (Unit×Int×Unit×Int×Int×Unit)×(vw×Unit)×List Int×Unit):wg.R:=
 br (decide (s.1.2.2.2.2.1<s.1.2.2.2.1)) (iteP (0<=s.1.2.2.2.2.1/\s.1.2.2.2.2.1< (s.2.2.1.length:Int)) ((s.2.2.1[s.1.2.2.2.2.1.toNat]?).bind λx18=>iteP (0<=x18) ((s.2.1.1.2.1[x18.toNat]?).bind λx19=>some (.inl (((),(if x19.version<s.1.2.1 then x19.version else s.1.2.1),(),s.1.2.2.2.1,(IntKind.wrap .i64 (s.1.2.2.2.2.1+1)),()),s.2))) none) none) (some (.inr ((s.1.2.1,()),(()),(()))))
def wi:=hO ke
def C1[eg] :=ky Tryz.f137 [0] wg ke [] [] (by kernel_rfl) λs=>by simp only[ke,tm];kernel_rfl
def mg(a0:eh)(a1:Int):Option (Int×Unit):=
 (iW a0 a1).bind λy1=>br (!y1.1) (some (0,())) (iteP (0<=a1) ((a0.servers[a1.toNat]?).bind λx2=>(qR x2.config).bind λy3=>(wi (((),2,(),(y3.1.length:Int),0,()),((a0.now,a0.servers,a0.sides,a0.master.configs,a0.master.activated,a0.masterUp,a0.lease.epoch,a0.lease.holder,a0.lease.ends,a0.places,()),()),y3.1,())).bind λe20=>some e20.1) none)
def Gh[eg] :=fw 137 Tryz.f137 tc oI (λx=>mg x.1 x.2.1) [yN,K0] [C1] (by kernel_rfl) λx=>by simp only[mg,tm];kernel_rfl
def kv(a0:eh)(a1:Int)(a2:Op):Option (eh×Int×Unit):=
 (nH a0).bind λy1=>(im a0 a1).bind λy2=>br (!y2.1) (some (y1.1,1,())) ((ly a2).bind λy3=>br (!y3.1) (some (y1.1,1,())) (iteP (0<=a1) ((a0.servers[a1.toNat]?).bind λx4=>br (!x4.up) (some (y1.1,2,())) ((iW a0 a1).bind λy5=>br (!y5.1) (some (y1.1,3,())) (iteP (0<=a1) ((a0.servers[a1.toNat]?).bind λx6=>(sY x6.log a2.client a2.seq).bind λy7=>br (decide (y7.1≥0)) (iteP (0<=y7.1) ((x6.log[y7.1.toNat]?).bind λx8=>br (!((x8.op.client==a2.client)&&((x8.op.seq==a2.seq)&&((x8.op.kind==a2.kind)&&((x8.op.object==a2.object)&&((x8.op.old==a2.old)&&((x8.op.value==a2.value)&&true))))))) (some (y1.1,11,())) (some (y1.1,0,()))) none) ((qQ x6.log).bind λy9=>(rO y9.1 a2).bind λy10=>br (!y10.2.2.1) (some (y1.1,11,())) ((qt a2).bind λy11=>let j17:Option (eh×Int×Unit):=iteP (0<=a1/\a1< (y1.1.servers.length:Int)) ((y1.1.servers[a1.toNat]?).bind λx13=>(y1.1.servers[a1.toNat]?).bind λx14=>iteP ((0:Nat)=0) (iteP (x14.log.length<x13.log.length) none (iteP ((x14.log.take x13.log.length++([(⟨x6.epoch,a2⟩:eA)]:List eA)).length*56<=2 ^ 40) (iteP (0<=a1/\a1< (y1.1.servers.length:Int)) ((y1.1.servers[a1.toNat]?).bind λx15=>iteP (a1.toNat=a1.toNat) (some ((⟨y1.1.now,(y1.1.servers.set a1.toNat (⟨x15.up,x15.intact,x15.version,x15.epoch,x15.config,x15.first,(x14.log.take x13.log.length++([(⟨x6.epoch,a2⟩:eA)]:List eA)),x15.commit,x15.learned⟩:eu)),y1.1.sides,y1.1.master,y1.1.masterUp,y1.1.lease,y1.1.places⟩:eh),0,())) none) none) none)) none) none;br y11.1 ((mg a0 a1).bind λy12=>br (decide (y12.1<2)) (some (y1.1,6,())) (br ((x6.log.length:Int)==16) (some (y1.1,5,())) (j17))) (br ((x6.log.length:Int)==16) (some (y1.1,5,())) (j17))))) none))) none))
def AE[eg] :=fw 42 Tryz.f42 Rv wj (λx=>kv x.1 x.2.1 x.2.2.1) [F9,yM,xj,yN,KX,KZ,GZ,Gf,Gh] [] (by kernel_rfl) λx=>by simp only[kv,tm,-eq_self];kernel_rfl
abbrev uY:LX:=⟨⟨[wJ,RF,vT,N4],[],[],0,26⟩,[(.ret,⟨[Ek],[],[],0,26⟩),(.ext 0,⟨[wK],[],[],0,26⟩)],[],[0,1,12,13],[4]⟩
def jC(s:VF×Unit×Unit):uY.R:=
 br (decide (s.1.2.2.2.1<s.1.2.2.1)) (iteP (0<=s.1.2.2.2.1) ((s.1.1[s.1.2.2.2.1.toNat]?).bind λx5=>iteP (0<=s.1.2.2.2.1) ((s.1.2.1[s.1.2.2.2.1.toNat]?).bind λx6=>br (!((x5.epoch==x6.epoch)&&((x5.op.client==x6.op.client)&&((x5.op.seq==x6.op.seq)&&((x5.op.kind==x6.op.kind)&&((x5.op.object==x6.op.object)&&((x5.op.old==x6.op.old)&&((x5.op.value==x6.op.value)&&true)))))))) (some (.inr (.inl ((false,()),(()),(()))))) (some (.inl ((s.1.1,s.1.2.1,s.1.2.2.1,(IntKind.wrap .i64 (s.1.2.2.2.1+1)),()),(()),(()))))) none) none) (some (.inr (.inr (((),()),(()),(())))))
def qc:=hO jC
def BL[eg] :=ky Tryz.f176 [0] uY jC [] [] (by kernel_rfl) λs=>by simp only[jC,tm];kernel_rfl
def li(a0:List eA)(a1:List eA):Option (Bool×Unit):=
 br (!((a0.length:Int)==(a1.length:Int))) (some (false,())) ((qc ((a0,a1,(a0.length:Int),0,()),(()),(()))).bind λe7=>Sum.elim (λe7_0=>some e7_0.1) (λ_=>some (true,())) e7)
def Fc[eg] :=fw 176 Tryz.f176 NV [.b] (λx=>li x.1 x.2.1) [] [BL] (by kernel_rfl) λx=>by simp only[li,tm];kernel_rfl
def jg(a0:eu)(a1:eu):Option (Bool×Unit):=
 br (a0.up==a1.up) (br (a0.intact==a1.intact) (br (a0.version==a1.version) (br (a0.epoch==a1.epoch) ((iA a0.config a1.config).bind λy1=>br y1.1 (br (a0.first==a1.first) ((li a0.log a1.log).bind λy2=>br y2.1 (br (a0.commit==a1.commit) ((li a0.learned a1.learned).bind λy3=>some (y3.1,())) (some (false,()))) (some (false,()))) (some (false,()))) (some (false,()))) (some (false,()))) (some (false,()))) (some (false,()))) (some (false,()))
def yj[eg] :=fw 62 Tryz.f62 [.ty (.st .server),.ty (.st .server)] [.b] (λx=>jg x.1 x.2.1) [pC,Fc] [] (by kernel_rfl) λx=>by simp only[jg,tm];kernel_rfl
abbrev iO:LX:=⟨⟨[(1,.cl (.ro (.st .server))),(2,.cl (.fc 62)),(15,.cl (.ro (.st .server))),RH,RI],[],[],0,32⟩,[(.ret,⟨[(6,.cl (.bl))],[],[],0,32⟩),(.ext 0,⟨[RB],[],[],0,32⟩)],[],[1,2,15,16,17],[6]⟩
def fE(s: (List eu×Unit×List eu×Int×Int×Unit)×Unit×Unit):iO.R:=
 br (decide (s.1.2.2.2.2.1<s.1.2.2.2.1)) (iteP (0<=s.1.2.2.2.2.1) ((s.1.2.2.1[s.1.2.2.2.2.1.toNat]?).bind λx5=>iteP (0<=s.1.2.2.2.2.1) ((s.1.1[s.1.2.2.2.2.1.toNat]?).bind λx6=>(jg x5 x6).bind λy7=>br (!y7.1) (some (.inr (.inl ((false,()),(()),(()))))) (some (.inl ((s.1.1,(),s.1.2.2.1,s.1.2.2.2.1,(IntKind.wrap .i64 (s.1.2.2.2.2.1+1)),()),(()),(()))))) none) none) (some (.inr (.inr (((),()),(()),(())))))
def mi:=hO fE
def mm[eg] :=ky Tryz.f61 [0] iO fE [yj] [] (by kernel_rfl) λs=>by simp only[fE,tm];kernel_rfl
def fL(a0:List eu)(a1:List eu):Option (Bool×Unit):=
 br (!((a0.length:Int)==(a1.length:Int))) (some (false,())) ((mi ((a1,(),a0,(a0.length:Int),0,()),(()),(()))).bind λe8=>Sum.elim (λe8_0=>some e8_0.1) (λ_=>some (true,())) e8)
def mR[eg] :=fw 61 Tryz.f61 [.ty (.ls (.st .server)),.ty (.ls (.st .server)),.fc 62] [.b] (λx=>fL x.1 x.2.1) [] [mm] (by kernel_rfl) λx=>by simp only[fL,tm];kernel_rfl
abbrev ju:LX:=⟨⟨[(1,.cl (.ro (.st .config))),(2,.cl (.fc 19)),(15,.cl (.ro (.st .config))),RH,RI],[],[],0,32⟩,[(.ret,⟨[(6,.cl (.bl))],[],[],0,32⟩),(.ext 0,⟨[RB],[],[],0,32⟩)],[],[1,2,15,16,17],[6]⟩
def f8(s: (List ey×Unit×List ey×Int×Int×Unit)×Unit×Unit):ju.R:=
 br (decide (s.1.2.2.2.2.1<s.1.2.2.2.1)) (iteP (0<=s.1.2.2.2.2.1) ((s.1.2.2.1[s.1.2.2.2.2.1.toNat]?).bind λx5=>iteP (0<=s.1.2.2.2.2.1) ((s.1.1[s.1.2.2.2.2.1.toNat]?).bind λx6=>(iA x5 x6).bind λy7=>br (!y7.1) (some (.inr (.inl ((false,()),(()),(()))))) (some (.inl ((s.1.1,(),s.1.2.2.1,s.1.2.2.2.1,(IntKind.wrap .i64 (s.1.2.2.2.2.1+1)),()),(()),(()))))) none) none) (some (.inr (.inr (((),()),(()),(())))))
def nN:=hO f8
def nP[eg] :=ky Tryz.f177 [0] ju f8 [pC] [] (by kernel_rfl) λs=>by simp only[f8,tm];kernel_rfl
def gk(a0:List ey)(a1:List ey):Option (Bool×Unit):=
 br (!((a0.length:Int)==(a1.length:Int))) (some (false,())) ((nN ((a1,(),a0,(a0.length:Int),0,()),(()),(()))).bind λe8=>Sum.elim (λe8_0=>some e8_0.1) (λ_=>some (true,())) e8)
def oJ[eg] :=fw 177 Tryz.f177 [.ty (.ls (.st .config)),.ty (.ls (.st .config)),.fc 19] [.b] (λx=>gk x.1 x.2.1) [] [nP] (by kernel_rfl) λx=>by simp only[gk,tm];kernel_rfl
def kw(a0:eC)(a1:eC):Option (Bool×Unit):=
 br (a0.activated==a1.activated) ((gk a0.configs a1.configs).bind λy1=>some (y1.1,())) (some (false,()))
def AF[eg] :=fw 64 Tryz.f64 [.ty (.st .masterLog),.ty (.st .masterLog)] [.b] (λx=>kw x.1 x.2.1) [oJ] [] (by kernel_rfl) λx=>by simp only[kw,tm];kernel_rfl
abbrev uZ:LX:=⟨⟨[Ce,(1,.cl (.ro (.st .place))),vT,N4],[],[],0,26⟩,[(.ret,⟨[Ek],[],[],0,26⟩),(.ext 0,⟨[wK],[],[],0,26⟩)],[],[0,1,12,13],[4]⟩
def nk(s: (List fB×List fB×Int×Int×Unit)×Unit×Unit):uZ.R:=
 br (decide (s.1.2.2.2.1<s.1.2.2.1)) (iteP (0<=s.1.2.2.2.1) ((s.1.1[s.1.2.2.2.1.toNat]?).bind λx5=>iteP (0<=s.1.2.2.2.1) ((s.1.2.1[s.1.2.2.2.1.toNat]?).bind λx6=>br (!((x5.rack==x6.rack)&&((x5.capacity==x6.capacity)&&((x5.load==x6.load)&&true)))) (some (.inr (.inl ((false,()),(()),(()))))) (some (.inl ((s.1.1,s.1.2.1,s.1.2.2.1,(IntKind.wrap .i64 (s.1.2.2.2.1+1)),()),(()),(()))))) none) none) (some (.inr (.inr (((),()),(()),(())))))
def BM:=hO nk
def BN[eg] :=ky Tryz.f65 [0] uZ nk [] [] (by kernel_rfl) λs=>by simp only[nk,tm];kernel_rfl
def mS(a0:List fB)(a1:List fB):Option (Bool×Unit):=
 br (!((a0.length:Int)==(a1.length:Int))) (some (false,())) ((BM ((a0,a1,(a0.length:Int),0,()),(()),(()))).bind λe7=>Sum.elim (λe7_0=>some e7_0.1) (λ_=>some (true,())) e7)
def Fd[eg] :=fw 65 Tryz.f65 [.ty (.ls (.st .place)),.ty (.ls (.st .place))] [.b] (λx=>mS x.1 x.2.1) [] [BN] (by kernel_rfl) λx=>by simp only[mS,tm];kernel_rfl
def kf(a0:eh)(a1:eh):Option (Bool×Unit):=
 br (a0.now==a1.now) ((fL a0.servers a1.servers).bind λy1=>br y1.1 ((lH a0.sides a1.sides).bind λy2=>br y2.1 ((kw a0.master a1.master).bind λy3=>br y3.1 (br (a0.masterUp==a1.masterUp) (br ((a0.lease.epoch==a1.lease.epoch)&&((a0.lease.holder==a1.lease.holder)&&((a0.lease.ends==a1.lease.ends)&&true))) ((mS a0.places a1.places).bind λy4=>some (y4.1,())) (some (false,()))) (some (false,()))) (some (false,()))) (some (false,()))) (some (false,()))) (some (false,()))
def C2[eg] :=fw 11 Tryz.f11 [.ty (.st .cluster),.ty (.st .cluster)] [.b] (λx=>kf x.1 x.2.1) [mR,AB,AF,Fd] [] (by kernel_rfl) λx=>by simp only[kf,tm];kernel_rfl
abbrev u6:LX:=⟨⟨[wJ,RF,so],[],[],0,30⟩,[(.ext 0,⟨[so],[],[],0,30⟩)],[],[0,1,5],[5]⟩
def iU(s:VA×Unit×Unit):u6.R:=
 br (decide (s.1.2.2.1< (s.1.1.length:Int))) (br (decide (s.1.2.2.1< (s.1.2.1.length:Int))) (iteP (0<=s.1.2.2.1) ((s.1.1[s.1.2.2.1.toNat]?).bind λx4=>iteP (0<=s.1.2.2.1) ((s.1.2.1[s.1.2.2.1.toNat]?).bind λx5=>br ((x4.epoch==x5.epoch)&&((x4.op.client==x5.op.client)&&((x4.op.seq==x5.op.seq)&&((x4.op.kind==x5.op.kind)&&((x4.op.object==x5.op.object)&&((x4.op.old==x5.op.old)&&((x4.op.value==x5.op.value)&&true))))))) (some (.inl ((s.1.1,s.1.2.1,(IntKind.wrap .i64 (s.1.2.2.1+1)),()),(()),(())))) (some (.inr (s.1.2.2,(()),(()))))) none) none) (some (.inr (s.1.2.2,(()),(()))))) (some (.inr (s.1.2.2,(()),(()))))
def qd:=hO iU
def BO[eg] :=ky Tryz.f102 [0] u6 iU [] [] (by kernel_rfl) λs=>by simp only[iU,tm];kernel_rfl
def lj(a0:List eA)(a1:List eA):Option (Int×Unit):=
 (qd ((a0,a1,0,()),(()),(()))).bind λe6=>some e6.1
def Fe[eg] :=fw 102 Tryz.f102 NV oI (λx=>lj x.1 x.2.1) [] [BO] (by kernel_rfl) λx=>by simp only[lj,tm];kernel_rfl
def s6(a0:List eA)(a1:List eA):Option (Bool×Unit):=
 (lj a0 a1).bind λy1=>some ((y1.1==(a0.length:Int)),())
def MJ[eg] :=fw 30 Tryz.f30 NV [.b] (λx=>s6 x.1 x.2.1) [Fe] [] (by kernel_rfl) λx=>by simp only[s6,tm];kernel_rfl
def tL[eg](a0:Hd):Option (Bool×Unit):=
 (RL a0).bind λy1=>br y1.1 (some (true,())) ((iM a0).bind λy2=>(kv y2.1 y2.2.1 y2.2.2.1).bind λy3=>(fX y2.1 y2.2.1 y2.2.2.1).bind λy4=>br (!(y3.2.1==y4.2.1)) (some (false,())) ((kf y3.1 y4.1).bind λy5=>br (!y5.1) (some (false,())) (br (!(y3.2.1==0)) ((kf y3.1 y2.1).bind λy6=>some (y6.1,())) (iteP (0<=y2.2.1/\y2.2.1< (y3.1.servers.length:Int)) ((y3.1.servers[y2.2.1.toNat]?).bind λx7=>(y3.1.servers[y2.2.1.toNat]?).bind λx8=>iteP (0+x7.log.length<=x8.log.length) ((sY ((x8.log.drop 0).take x7.log.length) y2.2.2.1.client y2.2.2.1.seq).bind λy9=>br (decide (y9.1≥0)) (iteP (0<=y2.2.1/\y2.2.1< (y2.1.servers.length:Int)) ((y2.1.servers[y2.2.1.toNat]?).bind λx10=>br (((x7.log.length:Nat):Int)==((x10.log.length:Nat):Int)) (some (true,())) (iteP (0<=(IntKind.wrap .i64 (((x7.log.length:Nat):Int)-1))/\(IntKind.wrap .i64 (((x7.log.length:Nat):Int)-1))< ((x7.log.length:Nat):Int)) ((y3.1.servers[y2.2.1.toNat]?).bind λx11=>(x11.log[(0+(IntKind.wrap .i64 (((x7.log.length:Nat):Int)-1)).toNat)]?).bind λx12=>br ((x12.op.client==y2.2.2.1.client)&&((x12.op.seq==y2.2.2.1.seq)&&((x12.op.kind==y2.2.2.1.kind)&&((x12.op.object==y2.2.2.1.object)&&((x12.op.old==y2.2.2.1.old)&&((x12.op.value==y2.2.2.1.value)&&true)))))) (iteP (0<=y2.2.1/\y2.2.1< (y2.1.servers.length:Int)) ((y2.1.servers[y2.2.1.toNat]?).bind λx13=>(y2.1.servers[y2.2.1.toNat]?).bind λx14=>iteP (0+x13.log.length<=x14.log.length) ((y3.1.servers[y2.2.1.toNat]?).bind λx15=>iteP (0+x7.log.length<=x15.log.length) ((s6 ((x14.log.drop 0).take x13.log.length) ((x15.log.drop 0).take x7.log.length)).bind λy16=>some (y16.1,())) none) none) none) (some (false,()))) none)) none) (some (false,()))) none) none))))
def K1[eg] :=fw 6 Tryz.f6 [.ty (.h)] [.b] (λx=>tL x.1) [XY,wl,AE,tI,C2,KX,MJ] [] (by kernel_rfl) λx=>by simp only[tL,tm];kernel_rfl
end
end Go.Proofs.YtkghndikalnipaaGreat.En
