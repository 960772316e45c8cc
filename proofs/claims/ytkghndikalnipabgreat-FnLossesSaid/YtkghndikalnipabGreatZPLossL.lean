/- Plain laws. -/
import Derived.Test.YtkghndikalnipabGreatZPT3
set_option linter.unusedSimpArgs false
set_option linter.unusedVariables false
namespace Go.Proofs.YtkghndikalnipabGreat.En
open Go
section
theorem Kh(x:oQ)(ok:C0 1048576 x):Tt (λy=>y.1=true->VC x) (CC x):=by obtain⟨v,v1,_⟩:=Ea x ok;exact⟨(v,()),v1,λe=>DK ok (by rw[v1,show v=true from e])⟩
theorem Vx(x:oQ)(ok:C0 1048576 x)(e:Int): ∃c b,DG x.master e=some (c,b,())/\Eg maxLen c/\(VC x->c.replicas.length<=5/\c.witnesses.length<=5/\(∀z∈c.replicas,0<=z/\z<5)/\(∀z∈c.witnesses,0<=z/\z<5)/\(b=true->CE c=some (true,())/\0<=c.primary/\c.primary<5)/\Le c.replicas):=by
 obtain⟨c,b,h1,_,h2⟩:=KH x.master e ok.2.2.1;refine⟨c,b,h1,h2,λvc=> ?_⟩;obtain⟨c',b',g1,_,g2,_,g3,g4⟩:=GZ x.master e ok.2.2.1 vc.ml;rw[h1] at g1;obtain⟨rfl,rfl⟩:c=c'/\b=b':=by simpa using g1
 cases b with
 |false=>rw[g4 rfl];exact⟨bL _,bL _,nofun,nofun,nofun,λk hk=>by simp at hk⟩
 |true=>obtain⟨a1,a2,a3,_⟩:=FO g2 (g3 rfl).1;exact⟨a1.len,a2.len,Jx a1,Jx a2,λ_=>⟨(g3 rfl).1,Jx a1 _ a3⟩,a1⟩
theorem UA(x:oQ)(ok:C0 1048576 x): ∃c b,CK x.master=some (c,b,())/\Eg maxLen c/\(VC x->c.replicas.length<=5/\c.witnesses.length<=5/\(∀z∈c.replicas,0<=z/\z<5)/\(∀z∈c.witnesses,0<=z/\z<5)/\(b=true->CE c=some (true,())/\0<=c.primary/\c.primary<5)/\Le c.replicas):=by obtain⟨c,b,h1,h2⟩:=Vx x ok x.master.activated;exact⟨c,b,by unfold CK;rw[h1];rfl,h2⟩
theorem Uv(s:oU)(e:Int)(h:C9 1048576 s):Tt (λy=>C9 1048576 y.1) (FT s e):=by unfold FT;rw[(NB s h).1,al,Dz,al,CD];exact .br (λ_=> .br (λ_=> .ret h) λ_=> .br (λ_=> .ret h) λ_=> .ret h) λ_=> .ret h
theorem aaz(x:oQ)(ok:C0 1048576 x)(id e:Int):Tt (λy=>Kp x y.1) (GM x id e):=by
 obtain⟨c,b,c1,c2,c3⟩:=UA x ok;unfold GM;rw[(Fu x ok).1,al,c1,al];refine .bind (Kh x ok) λv hv=> ?_;rw[CD];refine .br (λh=> ?_) λ_=> .ret (.self ok);have vc:=hv h;rw[CD];refine .br (λ_=> ?_) λ_=> .ret (.self ok);rw[Dz,al,CD];refine .br (λ_=> .bind (Ma c c2) λm hm=> ?_) λ_=> .ret (.self ok);have hl:m.1.length<=maxLen:=by have:=hm.1;unfold maxLen;omega
 refine .bind (.count (B:=HY) (E:=λe=> ∃S:List oU,(S.length=5/\ ∀s∈S,C9 1048576 s)/\e=(((),(),()),(fz,fc x,()),S,x.sides,x.master.configs,x.places,())) m.1.length (λk (S:List oU)=>((id,e,(),(),(),(),(k:Int),()),(fx x,fz,fc x,()),m.1,S,x.sides,x.master.configs,x.places,())) (λ_ S=>S.length=5/\ ∀s∈S,C9 1048576 s) (λS hS=> .end (Cb _) (.ret ⟨S,hS,rfl⟩)) (λk S hk hS=> .go (Ca.2 hk) (.ip ⟨B9 k,Ca.2 hk⟩ (.get (tn hk) λz hz' hz=> .srv ok vc (hm.2 z hz) λs _ _ _=> .br (λ_=> .ip ⟨B9 k,Ca.2 hk⟩ (.get (tn hk) λz2 _ hz2=> .bind (Ux ok vc id z2) λ_ _=> .br (λ_=> .ip ⟨B9 k,Ca.2 hk⟩ (.get (tn hk) λz3 _ hz3=> .ip ⟨B9 k,Ca.2 hk⟩ (.get (tn hk) λz4 _ hz4=> .srv ok vc (hm.2 z4 hz4) λt _ t2 _=> .bind (Uv t e t2) λu hu=> .at hS.1 (hm.2 z3 hz3) λ_ _ _=> .ret ⟨S.set z3.toNat u.1,by rw[Ad hl hk],Vp hS hu _⟩))) λ_=> .ret ⟨S,by rw[Ad hl hk],hS⟩)) λ_=> .ret ⟨S,by rw[Ad hl hk],hS⟩))) x.servers ⟨vc.len,ok.1.2⟩) ?_
 rintro _ ⟨S,hS,rfl⟩
 exact .ret ((Kp.self ok).srvs (by rw[hS.1,vc.len]) hS.2)
section
variable {x:oQ} (ok:C0 1048576 x) (vc:VC x) (id:Int)
include ok vc
theorem X3:Tt (λy=>y.1.length<=5/\ ∀z∈y.1,0<=z/\z<5) (IU x id):=by
 obtain⟨c,d,c1,c2,c3⟩:=UA x ok;obtain⟨r5,_,inr,_⟩:=c3 vc;have rm:c.replicas.length<=maxLen:=by unfold maxLen;omega
 unfold IU;rw[c1,al];refine .bind (.count (B:=Iy) (E:=λe=>e.2.2.1.length<=5/\ ∀z∈e.2.2.1,0<=z/\z<5) c.replicas.length (λk (b:List Int)=>((id,(),(),(),d,(k:Int),()),(fx x,(c.epoch,c.primary,(),(),()),()),b,c.replicas,c.witnesses,())) (λk b=>b.length<=k/\ ∀z∈b,0<=z/\z<5) (λb hb=> .end (Cb _) (.ret ⟨aR hb.1 r5,hb.2⟩)) (λk b hk hb=> ?_) [] ⟨au _,nofun⟩) λy hy=> .ret hy;have ex:b.length<=5/\ ∀z∈b,0<=z/\z<5:=⟨by omega,hb.2⟩
 have st:b.length<=k+1/\ ∀z∈b,0<=z/\z<5:=⟨by omega,hb.2⟩
 refine .go (Ca.2 hk) (.br (λ_=> .bind (Kh x ok) λ_ _=> .br (λ_=> ?_) λ_=> .ret ex) λ_=> .ret ex);rw[Dz,al];refine .br (λ_=> .ip ⟨B9 k,Ca.2 hk⟩ (.get (tn hk) λz _ hz=> .srv ok vc (inr z hz) λs _ _ _=> .br (λ_=> .br (λ_=> .ip ⟨B9 k,Ca.2 hk⟩ (.get (tn hk) λz2 _ hz2=> .bind (Ux ok vc id z2) λ_ _=> .br (λ_=> .ip ⟨B9 k,Ca.2 hk⟩ (.get (tn hk) λz3 _ hz3=> .ip ?_ (.ret ⟨b++ [z3],by rw[Ad rm hk],?_⟩))) λ_=> .ret ⟨b,by rw[Ad rm hk],st⟩)) λ_=> .ret ⟨b,by rw[Ad rm hk],st⟩) λ_=> .ret ⟨b,by rw[Ad rm hk],st⟩)) λ_=> .ret ex
 ·show (b++ [z3]).length*8<=2 ^ 40;rw[bH,cm];omega
 ·exact⟨by rw[bH,cm];omega,λy hy=>(bq.1 hy).elim (hb.2 y) λh=>by rw[aH.1 h];exact inr z3 hz3⟩
theorem aal:Tt (λy=>y.1= -1\/0<=y.1/\y.1<5) (II x id):=by
 unfold II;refine .bind (X3 ok vc id) λl hl=> ?_;have lm:l.1.length<=maxLen:=by have:=hl.1;unfold maxLen;omega
 refine .bind (.count (B:=Iu) (E:=λe=>e.1.1= -1\/0<=e.1.1/\e.1.1<5) l.1.length (λk (b:Int)=>(((),b,(),(k:Int),()),(fx x,()),l.1,())) (λ_ b=>b= -1\/0<=b/\b<5) (λb hb=> .end (Cb _) (.ret hb)) (λk b hk hb=> ?_) (-1) (.inl rfl)) λy hy=> .ret hy;refine .go (Ca.2 hk) (.br (λ_=> .ip ⟨B9 k,Ca.2 hk⟩ (.get (tn hk) λz _ hz=> .ret ⟨z,by rw[Ad lm hk],.inr (hl.2 z hz)⟩)) λhn=> .ip ⟨B9 k,Ca.2 hk⟩ (.get (tn hk) λz _ hz=> .srv ok vc (hl.2 z hz) λs _ _ _=> .srv ok vc (a:=b) ?_ λt _ _ _=> .br (λ_=> .ip ⟨B9 k,Ca.2 hk⟩ (.get (tn hk) λz2 _ hz2=> .ret ⟨z2,by rw[Ad lm hk],.inr (hl.2 z2 hz2)⟩)) λ_=> .ret ⟨b,by rw[Ad lm hk],hb⟩));have hn: ¬b<0:=of_decide_eq_false hn;omega
omit ok vc in
theorem Wj(f:Int)(l:List pS)(hl:l.length<=maxLen):Tt (λy=>y.1=true->0<=f/\l.length<=3) (LO f l):=by obtain⟨b,b1,b2⟩:=M8 hl;unfold LO;rw[b1,al];refine .br (λ_=> .br (λh=> ?_) λ_=> .ret nofun) λ_=> .ret nofun;have h: (l.length:Int)<=3:=of_decide_eq_true h;rw[Dz,al];refine .br (λw=> ?_) λ_=> .ret nofun;have w:=CG.1 w;exact .br (λ_=> .ret λ_=>⟨w.1,by omega⟩) λ_=> .ret λ_=>⟨w.1,by omega⟩
omit ok vc in
theorem aan(a:List pS)(f:Int)(t:List pS)(ha:a.length<=1048576)(ht:t.length<=1048576):Tt (λy=>y.1.length<=19) (KN a f t):=by
 obtain⟨b,b1,b2⟩:=M8 (CI ha);unfold KN;rw[b1,al,CD];refine .br (λe=> ?_) λ_=> .ret (bL _);have h16:=b2 e;refine .bind (Wj f t (CI ht)) λg hg=> ?_;rw[CD];refine .br (λe=> ?_) λ_=> .ret (bL _);obtain⟨f0,t3⟩:=hg e;refine .br (λ_=> .ret (bL _)) λhn=> ?_;have hn: ¬f>(a.length:Int):=of_decide_eq_false hn;obtain⟨n,n1,n2,n3,_⟩:=SM ((a.drop f.toNat).take ((a.length:Int).toNat-f.toNat)) t (aR (by rw[cH,cd];omega) (CI ha));refine .ip (by omega) ?_;rw[n1,al,uc (n:=(a.length:Int)-f) (by omega) (by omega)];refine .br (λ_=> .ret (bL _)) λ_=> ?_;rw[OE ha,al]
 have hl: (a++((t.drop (n:Int).toNat).take ((t.length:Int).toNat-(n:Int).toNat))).length<=19:=by rw[bH,cH,cd];omega
 refine .ip (by omega) (.ip (aR (bo 56 hl) (by omega)) ?_);obtain⟨d,d1,_⟩:=M8 (l:=a++((t.drop (n:Int).toNat).take ((t.length:Int).toNat-(n:Int).toNat))) (by unfold maxLen;omega);rw[show Dk _=_ from d1,al,CD];exact .br (λ_=> .ret hl) λ_=> .ret (bL _)
omit ok vc in
theorem aak(s:oU)(id:Int)(h:C9 1048576 s)(hf:0<=s.first/\s.first<=16/\s.log.length<=16):Tt (λy=>y.1.length<=1048576) (Ip s id):=by obtain⟨n,n1,_⟩:=Kg s.config id (CJ h.1);unfold Ip;rw[n1,al,OE h.2.2,al];have eU:Tt (λy:List pS×Unit=>y.1.length<=1048576) ((Df s).bind λy3=>br (decide ((y3.1.length:Int)>(s.learned.length:Int))) (some (y3.1,())) (some (s.learned,()))):=.bind (Og s h hf) λy hy=> .br (λ_=> .ret (by show y.1.length<=_;omega)) λ_=> .ret h.2.2;exact .br (λ_=>eU) λ_=> .br (λ_=>eU) λ_=> .ret h.2.2
theorem aah{c:mt}{w:oU}(hw:C9 1048576 w)(j:Int)(d:Bool)(b:List pS×Bool)(hb:b.1.length<=19):Tt (λe=> ∃r:List pS×Bool,r.1.length<=19/\e=((id,(),(),r.2,(),d,j,()),(fx x,(c.epoch,c.primary,(),(),()),()),r.1,c.replicas,c.witnesses,())) (MF ((id,(),(),b.2,(),d,j,(),0,()),(fx x,(c.epoch,c.primary,(),(),()),fsv w,()),b.1,c.replicas,c.witnesses,())):=by
 refine .count (B:=HZ) (E:=λe=> ∃r:List pS×Bool,r.1.length<=19/\e=((id,(),(),r.2,(),d,j,()),(fx x,(c.epoch,c.primary,(),(),()),()),r.1,c.replicas,c.witnesses,())) 5 (λk (b:List pS×Bool)=>((id,(),(),b.2,(),d,j,(),(k:Int),()),(fx x,(c.epoch,c.primary,(),(),()),fsv w,()),b.1,c.replicas,c.witnesses,())) (λ_ b=>b.1.length<=19) (λb hb=> .end (Cb _) (.ret ⟨b,hb,rfl⟩)) (λk b hk hb=> ?_) b hb;have hkk:0<=(k:Int)/\(k:Int)<5:=⟨B9 k,Ca.2 hk⟩
 have sw:=Ad (n:=5) (by decide) hk;refine .go hkk.2 (.srv ok vc hkk λs _ _ _=> ?_);dsimp only;rw[sw,CD];refine .br (λ_=> .bind (Ux ok vc id k) λy _=> ?_) λ_=> .ret ⟨b,rfl,hb⟩;rw[CD];refine .br (λ_=> .srv ok vc hkk λt _ t2 t3=> .bind (aak t k t2 (TC t2 t3)) λy hy=> .bind (aan y.1 w.first w.log hy hw.2.1) λz hz=> .br (λ_=> ?_) λ_=> .ret ⟨b,rfl,hb⟩) λ_=> .ret ⟨b,rfl,hb⟩;rw[CD];exact .br (λ_=> .br (λ_=> .ret ⟨(z.1,true),rfl,hz⟩) λ_=> .ret ⟨b,rfl,hb⟩) λ_=> .ret ⟨(z.1,true),rfl,hz⟩
theorem X8:Tt (λy=>y.1.length<=19) (IV x id):=by
 obtain⟨c,d,c1,c2,c3⟩:=UA x ok;obtain⟨_,r5,_,inw,_⟩:=c3 vc;have rm:c.witnesses.length<=maxLen:=by unfold maxLen;omega
 unfold IV;rw[c1,al];refine .bind (.count (B:=Iz) (E:=λe=>e.2.2.1.length<=19) c.witnesses.length (λk (b:List pS×Bool)=>((id,(),(),b.2,(),d,(k:Int),()),(fx x,(c.epoch,c.primary,(),(),()),()),b.1,c.replicas,c.witnesses,())) (λ_ b=>b.1.length<=19) (λb hb=> .end (Cb _) (.ret hb)) (λk b hk hb=> ?_) ([],false) (bL _)) λy hy=> .ret hy;refine .go (Ca.2 hk) (.br (λ_=> .bind (Kh x ok) λ_ _=> .br (λ_=> ?_) λ_=> .ret hb) λ_=> .ret hb);rw[Dz,al];refine .br (λ_=> .ip ⟨B9 k,Ca.2 hk⟩ (.get (tn hk) λz _ hz=> .srv ok vc (inw z hz) λs _ s2 _=> ?_)) λ_=> .ret hb;have sw:=Ad rm hk;rw[CD];refine .br (λ_=> ?_) λ_=> .ret ⟨b,by rw[sw],hb⟩;rw[CD];refine .br (λ_=> .ip ⟨B9 k,Ca.2 hk⟩ (.get (tn hk) λz2 _ _=> .bind (Ux ok vc id z2) λy _=> ?_)) λ_=> .ret ⟨b,by rw[sw],hb⟩;rw[CD];refine .br (λ_=> .bind (aah ok vc id (c:=c) s2 k d b hb) ?_) λ_=> .ret ⟨b,by rw[sw],hb⟩
 rintro _ ⟨r,hr,rfl⟩
 exact .ret ⟨r,by rw[<-sw],hr⟩
theorem YK:Tt (λy=>y.1.length<=1048576) (Im x id):=by unfold Im;refine .bind (Kh x ok) λv _=> ?_;rw[CD];refine .br (λ_=> ?_) λ_=> .ret (bL _);rw[Dz,al,CD];refine .br (λ_=> .br (λ_=> .ret (bL _)) λ_=> .bind (aal ok vc id) λn hn=> .br (λh=> ?_) λ_=> .bind (X8 ok vc id) λy hy=> .ret (by show y.1.length<=_;omega)) λ_=> .ret (bL _);have h:n.1≥0:=of_decide_eq_true h;refine .srv ok vc (by omega) λs _ s2 _=> ?_;rw[OE s2.2.1];exact .ret s2.2.1
end
theorem Qr(l:List pS)(hl:l.length<=maxLen):Tt T1 (DH l):=by unfold DH;refine .bind (.count (B:=DL) (E:=λ_=>True) l.length (λk (_:Unit)=>((l,(k:Int),()),(),())) (λ_ _=>True) (λ_ _=> .end (Cb _) (.ret trivial)) (λk _ hk _=> .go (Ca.2 hk) (.ip (B9 k) (.get (tn hk) λe _ _=> .bind (Q:=T1) (by unfold Ff;exact .ret trivial) λ_ _=> .br (λ_=> .ret trivial) λ_=> .ret ⟨(),by rw[Ad hl hk],trivial⟩))) () trivial) λy _=> ?_;cases y<;>exact .ret trivial
theorem TT(s:oU)(c:mt)(id:Int)(l:List pS)(hs:C9 1048576 s)(hc:Eg 1048576 c)(hl:l.length<=1048576):Tt (λy=>C9 1048576 y.1) (Dw s c id l):=by
 obtain⟨n,n1,_⟩:=Kg c id (CJ hc);obtain⟨b,b1,_⟩:=M8 (CI hl);obtain⟨e,e1,_⟩:=GP l (CI hl);unfold Dw;simp only[n1,b1,e1,(NB s hs).1,(IB c hc).1,OE hl,Dz,al,CD,Qw l hl];have hk:cutAt l<=l.length:=Nat.sub_le _ _
 have hl2: ((l.drop (cutAt l)).take ((l.length:Int).toNat-cutAt l)).length<=1048576:=by rw[cH,cd];omega
 refine .br (λ_=> .ret hs) λ_=> .br (λ_=> .br (λ_=> .br (λ_=> .br (λ_=> .ret hs) λ_=> .br (λ_=> .bind (Qr l (CI hl)) λ_ _=> .br (λ_=> .ret hs) λ_=> ?_) λ_=> ?_) λ_=> .ret hs) λ_=> .ret hs) λ_=> .ret hs
 all_goals
  exact .br (λ_=> .ip (by omega) (.bind (Q:=λy=>y.1.length<=1048576) ⟨_,OE hl2,hl2⟩ λy hy=> .ret ⟨hc,hy,bL _⟩)) λ_=> .ret ⟨hc,hl,bL _⟩
theorem Qt(m:jr)(h:Ju 1048576 m)(e:Int):Tt (λy=>Ju 1048576 y.1/\y.1.configs.length=m.configs.length) (De m e):=by obtain⟨b,b1,_⟩:=masterLog m (DW h);unfold De;rw[(Ls m h).1,al,b1,al,CD];refine .br (λ_=> ?_) λ_=> .ret ⟨h,rfl⟩;rw[CD];exact .br (λ_=> .br (λ_=> .ret ⟨h,rfl⟩) λ_=> .ret ⟨h,rfl⟩) λ_=> .ret ⟨h,rfl⟩
theorem Pc(x:oQ)(ok:C0 1048576 x):Tt (λy=>Kp x y.1) (H6 x):=by
 obtain⟨c,b,c1,c2,c3⟩:=Vx x ok (x.master.configs.length:Int);unfold H6 Ey;rw[(Fu x ok).1,al,c1,al,al];refine .bind (Kh x ok) λv hv=> ?_;rw[CD];refine .br (λh=> ?_) λ_=> .ret (.self ok);have vc:=hv h;rw[CD];refine .br (λhb=> .br (λ_=> .ret (.self ok)) λ_=> .br (λ_=> .ret (.self ok)) λ_=> ?_) λ_=> .ret (.self ok);obtain⟨r5,w5,_,_,hp,_⟩:=c3 vc;have hp:=(hp hb).2;have hc:Eg 1048576 c:=⟨by omega,by omega⟩
 have s5:=HU (CI ok.2.1) vc.sides;refine .srv ok vc hp λs _ _ _=> ?_;rw[CD];refine .br (λ_=> .ip hp.1 (.get (by show c.primary.toNat<x.sides.length;omega) λsd _ _=> ?_)) λ_=> .ret (.self ok);rw[CD];refine .br (λ_=> ?_) λ_=> .ret (.self ok);obtain⟨o,o1,_⟩:=Nd x.lease x.now;rw[o1,al,CD];refine .br (λ_=> .bind (aaz x ok c.primary c.epoch) λy hy=> .bind (YK ok vc c.primary) λl hl=> ?_) λ_=> .ret (.self ok);rw[CD];refine .br (λ_=> .bind (Ma c c2) λm hm=> ?_) λ_=> .ret hy;have ml:m.1.length<=maxLen:=by have:=hm.1;unfold maxLen;omega
 have hyS:y.1.servers.length=5/\ ∀s∈y.1.servers,C9 1048576 s:=⟨hy.2.trans vc.len,hy.1.1.2⟩
 refine .bind (.count (B:=Jy) (E:=Sum.elim (λe=> ∃n:Int,e=(((),(),n,(),(),(),(),()),(fx x,fc y.1,(fc y.1,(c.epoch,c.primary,(),(),()),())),l.1,m.1,y.1.servers,y.1.sides,y.1.master.configs,y.1.places,c.replicas,c.witnesses,())) λe=>e.2=((fx x,fz,fc y.1,(c.epoch,c.primary,(),(),()),()),l.1,m.1,y.1.servers,y.1.sides,y.1.master.configs,y.1.places,c.replicas,c.witnesses,())) m.1.length (λk (_:Unit)=>(((),(),(),(),(),(),(k:Int),()),(fx x,fz,fc y.1,(c.epoch,c.primary,(),(),()),()),l.1,m.1,y.1.servers,y.1.sides,y.1.master.configs,y.1.places,c.replicas,c.witnesses,())) (λ_ _=>True) (λ_ _=> .end (Cb _) (.ret rfl)) (λk _ hk _=> ?_) () trivial) λe he=> ?_
 ·refine .go (Ca.2 hk) (.ip ⟨B9 k,Ca.2 hk⟩ (.get (tn hk) λz _ hz=> .srv ok vc (hm.2 z hz) λs _ _ _=> ?_));rw[CD];refine .br (λ_=> .ip ⟨B9 k,Ca.2 hk⟩ (.get (tn hk) λz2 _ hz2=> .ip (hm.2 z2 hz2).1 (.get (by have:=hm.2 z2 hz2;show z2.toNat<x.sides.length;omega) λw _ _=> ?_))) λ_=> .ret ⟨_,rfl⟩;rw[CD];exact .br (λ_=> .ret ⟨(),by rw[Ad ml hk],trivial⟩) λ_=> .ret ⟨_,rfl⟩
 cases e with
 |inl e=>obtain⟨n,rfl⟩:=he;exact .ret hy
 |inr e=>
  show Tt _ ((N0 (((),(),(),(),(),(),0,()),e.2)).bind _);rw[show e.2=_ from he];refine .bind (.count (B:=Jz) (E:=Sum.elim (λe=> ∃n:Int,e=(((),(),n,(),(),(),(),()),(fx x,fc y.1,(fc y.1,(c.epoch,c.primary,(),(),()),())),l.1,m.1,y.1.servers,y.1.sides,y.1.master.configs,y.1.places,c.replicas,c.witnesses,())) λe=>e.2=((fx x,fz,fc y.1,(c.epoch,c.primary,(),(),()),()),l.1,m.1,y.1.servers,y.1.sides,y.1.master.configs,y.1.places,c.replicas,c.witnesses,())) m.1.length (λk (_:Unit)=>(((),(),(),(),(),(),(k:Int),()),(fx x,fz,fc y.1,(c.epoch,c.primary,(),(),()),()),l.1,m.1,y.1.servers,y.1.sides,y.1.master.configs,y.1.places,c.replicas,c.witnesses,())) (λ_ _=>True) (λ_ _=> .end (Cb _) (.ret rfl)) (λk _ hk _=> .go (Ca.2 hk) (.ip ⟨B9 k,Ca.2 hk⟩ (.get (tn hk) λz _ hz=> .srv ok vc (hm.2 z hz) λs _ _ _=> .br (λ_=> .bind (Qr l.1 (CI hl)) λ_ _=> .br (λ_=> .ret ⟨_,rfl⟩) λ_=> .ret ⟨(),by rw[Ad ml hk],trivial⟩) λ_=> .ret ⟨(),by rw[Ad ml hk],trivial⟩))) () trivial) λe he=> ?_;cases e with
  |inl e=>obtain⟨n,rfl⟩:=he;exact .ret hy
  |inr e=>
   show Tt _ ((N1 (((),(),(),(),(),(),0,()),e.2)).bind _);rw[show e.2=_ from he];refine .bind (.count (B:=JA) (E:=λe=> ∃S:List oU,(S.length=5/\ ∀s∈S,C9 1048576 s)/\e=(((),(),(),(),()),(fx x,fz,fc y.1,(c.epoch,c.primary,(),(),()),()),S,y.1.sides,y.1.master.configs,y.1.places,c.replicas,c.witnesses,())) m.1.length (λk (S:List oU)=>(((),(),(),(),(),(),(k:Int),()),(fx x,fz,fc y.1,(c.epoch,c.primary,(),(),()),()),l.1,m.1,S,y.1.sides,y.1.master.configs,y.1.places,c.replicas,c.witnesses,())) (λ_ S=>S.length=5/\ ∀s∈S,C9 1048576 s) (λS hS=> .end (Cb _) (.ret ⟨S,hS,rfl⟩)) (λk S hk hS=> ?_) y.1.servers hyS) ?_
   ·refine .go (Ca.2 hk) (.ip ⟨B9 k,Ca.2 hk⟩ (.get (tn hk) λz _ hz=> .ip ⟨B9 k,Ca.2 hk⟩ (.get (tn hk) λz2 _ hz2=> .at hS.1 (hm.2 z2 hz2) λs e' hs=> .ip ⟨B9 k,Ca.2 hk⟩ (.get (tn hk) λz3 _ _=> ?_))));dsimp only;simp only[e',al,ct,Ce,aL];refine .ip (au _) (.ip (au _) (.ip (au _) (.ip (au _) (.bind (TT s c z3 l.1 (hS.2 s hs) hc hl) λu hu=> .at hS.1 (hm.2 z hz) λ_ _ _=> .ret ⟨S.set z.toNat u.1,by rw[Ad ml hk],Vp hS hu _⟩))))
   ·rintro _ ⟨S,hS,rfl⟩
    refine .bind (Qt x.master ok.2.2.1 c.epoch) λw hw=> .ret ?_;exact⟨⟨⟨by show S.length<=_;rw[hS.1];decide,hS.2⟩,hy.1.2.1,hw.1,hy.1.2.2.2⟩,by show S.length=_;rw[hS.1,vc.len]⟩
end
section
theorem PV(m:jr)(h:Ju 1048576 m)(c:mt)(hc:Eg 1048576 c):Tt (λy=>Ju 1048576 y.1/\y.1.configs.length<=m.configs.length+1) (Dg m c):=by
 have self:Ju 1048576 m/\m.configs.length<=m.configs.length+1:=⟨h,cA _⟩
 obtain⟨b,b1,_⟩:=masterLog m (DW h);obtain⟨d,d1,_⟩:=Fk c (CJ hc);unfold Dg;rw[(Ls m h).1,al,b1,al,CD];refine .br (λe=> ?_) λ_=> .ret self;subst e;have hl:=VZ h b1;rw[d1,al,CD];refine .br (λ_=> ?_) λ_=> .ret self;rw[CD];refine .br (λ_=> ?_) λ_=> .ret self;rw[(IB c hc).1,al];have h2: (m.configs++ [c]).length<=21:=by rw[bH,cm];omega
 exact .ip (aR (bo 64 h2) (by omega)) (.ret ⟨⟨aR h2 (by omega),λd hd=>(bq.1 hd).elim (h.2 d) λe=>by rw[aH.1 e];exact hc⟩,by show (m.configs++ [c]).length<=_;rw[bH];exact au _⟩)
theorem Pv(x:oQ)(ok:C0 1048576 x)(c:mt)(hc:Eg 1048576 c):Tt (λy=>Kp x y.1) (F2 x c):=by unfold F2;rw[(Fu x ok).1,al];refine .bind (Kh x ok) λv _=> ?_;rw[CD];refine .br (λ_=> .br (λ_=> .ret (.self ok)) λ_=> .bind (PV x.master ok.2.2.1 c hc) λm hm=> ?_) λ_=> .ret (.self ok);rw[CD];exact .br (λ_=> .ret ⟨⟨ok.1,ok.2.1,hm.1,ok.2.2.2⟩,rfl⟩) λ_=> .ret (.self ok)
theorem ZK(x:oQ)(ok:C0 1048576 x)(n:Int):Tt (λy=>Kp x y.1) (Jh x n):=by unfold Jh;rw[(Fu x ok).1,al];refine .bind (Kh x ok) λv _=> ?_;rw[CD];refine .br (λ_=> ?_) λ_=> .ret (.self ok);rw[Dz,al,CD];exact .br (λ_=> .ret ⟨ok,rfl⟩) λ_=> .ret (.self ok)
theorem YU(x:oQ)(ok:C0 1048576 x)(id:Int):Tt (λy=>y.1=true->VC x/\0<=id/\id<5) (GO x id):=by obtain⟨b,b1,_,b2⟩:=SP x id ok;exact⟨_,b1,λe=>⟨DK ok (b2 e).1,(b2 e).2⟩⟩
theorem X6(x:oQ)(ok:C0 1048576 x)(id:Int):Tt (λy=>Kp x y.1) (GD x id):=by unfold GD;rw[(Fu x ok).1,al];refine .bind (YU x ok id) λv hv=> ?_;rw[CD];refine .br (λe=> ?_) λ_=> .ret (.self ok);obtain⟨vc,hid⟩:=hv e;refine .srv ok vc hid λs _ _ _=> .br (λ_=> .ret (.self ok)) λ_=> .srv ok vc hid λt _ _ _=> ?_;rw[CD];exact .br (λ_=> .at vc.len hid λu _ hu=> .ret ((Kp.self ok).set (s:=⟨u.up,u.intact,2,u.epoch,u.config,u.first,u.log,u.commit,u.learned⟩) (ok.1.2 u hu) _)) λ_=> .ret (.self ok)
theorem UI(x:oQ)(ok:C0 1048576 x)(id:Int):Tt (λy=>Kp x y.1) (FS x id):=by
 unfold FS;rw[(Fu x ok).1,al];refine .bind (YU x ok id) λv hv=> ?_;rw[CD];refine .br (λe=> ?_) λ_=> .ret (.self ok);obtain⟨vc,hid⟩:=hv e;refine .srv ok vc hid λs _ _ _=> .br (λ_=> .ret (.self ok)) λ_=> .srv ok vc hid λt _ _ _=> ?_;rw[CD];refine .br (λ_=> .srv ok vc hid λs _ s2 _=> .bind (Q:=T1) ?_ λ_ _=> .br (λ_=> .ret (.self ok)) λ_=> .bind (.count (B:=FN) (E:=Sum.elim (λe=> ∃n:Int,e=((id,(),n,(),()),(fc x,fc x,()),x.servers,x.sides,x.master.configs,x.places,())) λe=>e=((id,(),(),(),()),(fz,fc x,()),x.servers,x.sides,x.master.configs,x.places,())) x.servers.length (λk (_:Unit)=>((id,(),(),(),(),(k:Int),()),(fx x,fz,fc x,fsv s,()),x.servers,x.sides,x.master.configs,x.places,())) (λ_ _=>True) (λ_ _=> .end (Cb _) (.ret rfl)) (λk _ hk _=> ?_) () trivial) λe he=> ?_) λ_=> .ret (.self ok)
 ·unfold Dy;exact .bind (Qr _ (CI s2.2.2)) λ_ _=> .ret trivial
 ·have sw:=Ad (CI ok.1.1) hk;refine .go (Ca.2 hk) ?_;rw[show GN _=_ from I2 s.config (CJ s2.1),al,CD];refine .br (λ_=> .ret rfl) λ_=> .ip (B9 k) (.get (tn hk) λt _ ht=> ?_);have ht:=ok.1.2 t ht;rw[show Ew _ _=_ from (Ej t.config s.config (CJ ht.1)).1,al];refine .br (λ_=> .ip (B9 k) (.get (tn hk) λu _ hu=> .bind (Q:=T1) ?_ λ_ _=> .br (λ_=> .ret ⟨_,rfl⟩) λ_=> .ret ⟨(),by rw[sw],trivial⟩)) λ_=> .ret ⟨(),by rw[sw],trivial⟩;unfold Dy;exact .bind (Qr _ (CI (ok.1.2 u hu).2.1)) λ_ _=> .ret trivial
 cases e with
 |inl e=>obtain⟨n,rfl⟩:=he;exact .ret (.self ok)
 |inr e=>obtain rfl:=he;exact .at vc.len hid λu _ hu=> .ret ((Kp.self ok).set (s:=⟨u.up,u.intact,1,u.epoch,u.config,u.first,u.log,u.commit,u.learned⟩) (ok.1.2 u hu) _)
theorem XX(x:oQ)(ok:C0 1048576 x):Tt T1 (Dh x):=by
 obtain⟨c,b,c1,c2,c3⟩:=UA x ok;unfold Dh;rw[c1,al];refine .bind (Kh x ok) λv hv=> ?_;rw[CD];refine .br (λh=> ?_) λ_=> .ret trivial;have vc:=hv h;rw[CD];refine .br (λhb=> ?_) λ_=> .ret trivial;obtain⟨_,_,_,_,hp,_⟩:=c3 vc;have hp:=(hp hb).2;refine .srv ok vc hp λs _ s2 _=> ?_;obtain⟨d,d1,_⟩:=Jv s c.primary s2;rw[d1,al,CD];refine .br (λ_=> .srv ok vc hp λt _ _ _=> ?_) λ_=> .ret trivial;rw[CD];refine .br (λ_=> .bind (Ma c c2) λm hm=> .bind (.count (B:=DY) (E:=λ_=>True) m.1.length (λk (_:Unit)=>(((),(),(),(k:Int),()),(fx x,(c.epoch,c.primary,(),(),()),()),m.1,c.replicas,c.witnesses,())) (λ_ _=>True) (λ_ _=> .end (Cb _) (.ret trivial)) (λk _ hk _=> .go (Ca.2 hk) (.ip ⟨B9 k,Ca.2 hk⟩ (.get (tn hk) λz _ hz=> .bind (WY ok vc hp (hm.2 z hz)) λy _=> ?_))) () trivial) λe _=> ?_) λ_=> .ret trivial
 ·rw[CD];exact .br (λ_=> .ret ⟨(),by rw[Ad (by have:=hm.1;unfold maxLen;omega) hk],trivial⟩) λ_=> .ret trivial
 ·cases e<;>exact .ret trivial
theorem VA(x:oQ)(ok:C0 1048576 x):Tt T1 (Ed x):=by unfold Ed;exact .bind (XX x ok) λ_ _=> .ret trivial
section
variable {l:List sV} (hl:l.length<=maxLen) (hv:Di l=some (true,()))
include hl hv
theorem aab(m:List Int)(hm:Le m):Tt (λy=>y.1.length<=5) (LN l m):=by have h5:=Pt hl hv;have ml:=hm.len;unfold LN;refine .bind (.count (B:=Li) (E:=λe=>e.2.2.1.length<=5) m.length (λk (b:List Int)=>((l,m,(),(k:Int),()),(),b,())) (λk b=>b.length<=k/\SS b) (λb hb=> .end (Cb _) (.ret (aR hb.1 ml))) (λk b hk hb=> ?_) [] ⟨au _,List.Pairwise.nil⟩) λy hy=> .ret hy;refine .go (Ca.2 hk) ?_;dsimp only;rw[hv,al,(NA hm).1,al];refine .br (λ_=> .br (λ_=> .ip (B9 k) (.get (tn hk) λz _ hz=> .ip (Jx hm z hz).1 (.get (by have:=Jx hm z hz;omega) λp _ _=> ?_))) (λh=>by cases h)) (λh=>by cases h);obtain⟨r,r1,r2,_,r4,_⟩:=YE b p.rack (by omega) hb.2;rw[r1,al];exact .ret ⟨r,by rw[Ad (by unfold maxLen;omega) hk],by omega,r2⟩
theorem aay(i:Int):Tt T1 (LM l i):=by have h5:=Pt hl hv;unfold LM;rw[hv,al,Dz,al];refine .br (λ_=> .br (λh=> ?_) λ_=> .ret trivial) λ_=> .ret trivial;have h:=CG.1 h;exact .ip h.1 (.get (by omega) λ_ _ _=> .ip h.1 (.get (by omega) λ_ _ _=> .ret trivial))
theorem Ya(r:List Int)(hr:r.length<=5){a b:Int}(ha:0<=a/\a<5)(hb:0<=b/\b<5):Tt T1 (KT l r a b):=by
 have h5:=Pt hl hv;have rm:r.length<=maxLen:=by unfold maxLen;omega
 unfold KT;refine .ip ha.1 (.get (by omega) λp _ _=> ?_);rw[(C8 r p.rack rm).1,al];refine .ip hb.1 (.get (by omega) λq _ _=> ?_);rw[(C8 r q.rack rm).1,al,CD];exact .br (λ_=> .ip ha.1 (.get (by omega) λ_ _ _=> .ip hb.1 (.get (by omega) λ_ _ _=> .ret trivial))) λ_=> .ret trivial
theorem X4(m d:List Int)(hm:Le m)(hd:d.length<=maxLen):Tt (λy=>y.1= -1\/(0<=y.1/\y.1<5/\y.1∉m)) (Il l m d):=by
 have ml:m.length<=maxLen:=by have:=hm.len;unfold maxLen;omega
 unfold Il;refine .bind (aab hl hv m hm) λr hr=> .bind (.count (B:=JD) (E:=λe=>e.1.1= -1\/(0<=e.1.1/\e.1.1<5/\e.1.1∉m)) 5 (λk (b:Int)=>((l,m,d,b,(),(k:Int),()),(),r.1,())) (λ_ b=>b= -1\/(0<=b/\b<5/\b∉m)) (λb hb=> .end (Cb _) (.ret hb)) (λk b hk hb=> ?_) (-1) (.inl rfl)) λy hy=> .ret hy;have hkk:0<=(k:Int)/\(k:Int)<5:=⟨B9 k,Ca.2 hk⟩
 refine .go hkk.2 ?_;dsimp only;rw[(NA hm).1,al,Ad (n:=5) (by decide) hk];refine .br (λ_=> .bind (aay hl hv k) λy _=> ?_) (λh=>by cases h);rw[CD,(C8 m k ml).1,(C8 d k hd).1];refine .br (λ_=> .br (λ_=> .ret ⟨b,rfl,hb⟩) λhn=> .br (λ_=> .ret ⟨b,rfl,hb⟩) λ_=> ?_) λ_=> .ret ⟨b,rfl,hb⟩;have hn: (k:Int)∉m:=of_decide_eq_false hn;refine .br (λ_=> .ret ⟨(k:Int),rfl,.inr ⟨hkk.1,hkk.2,hn⟩⟩) λh0=> ?_;have h0: ¬b<0:=of_decide_eq_false h0;exact .bind (Ya hl hv r.1 hr hkk (by omega)) λ_ _=> .br (λ_=> .ret ⟨(k:Int),rfl,.inr ⟨hkk.1,hkk.2,hn⟩⟩) λ_=> .ret ⟨b,rfl,hb⟩
omit hv in
theorem aat(m a:List Int)(hm:Le m)(ha:Le a)(want:Int):Tt (λy=>Le y.1) (HI l m a want):=by
 have am:a.length<=maxLen:=by have:=ha.len;unfold maxLen;omega
 obtain⟨v,v1,_⟩:=Jc l hl;have nil:Le [] :=λk hk=>by simp at hk
 unfold HI;rw[NK m a hm am,RB _ a Vu am,al,al,v1,al,CD,(NA hm).1,(NA ha).1];refine .br (λe=> .br (λh=>by cases h) λ_=> .br (λh=>by cases h) λ_=> ?_) λ_=> .ret nil;subst e;rw[Dz,al,CD];refine .br (λ_=> ?_) λ_=> .ret nil;have dl:=(Vu.filter λx=> !decide (x∈a)).len;have dm: (([0,1,2,3,4]:List Int).filter λx=> !decide (x∈a)).length<=maxLen:=by unfold maxLen;omega
 generalize ([0,1,2,3,4]:List Int).filter (λx=> !decide (x∈a))=dead at dm;refine .bind (.loop (B:=HX) (E:=Sum.elim (λe=>Le e.2.2.1) λe=>Le e.2.2.1) (λs=> ∃out:List Int,s=((l,want,(),(),()),(),out,dead,())/\Le out) (λs=>(want-s.2.2.1.length).toNat) ?_ ⟨_,rfl,hm.filter _⟩) λy hy=> ?_
 ·rintro _ ⟨out,rfl,ho⟩
  have ol:=ho.len;refine .br (λc=> ?_) λ_=> .ret ho;have c: (out.length:Int)<want:=of_decide_eq_true c;refine .bind (X4 hl v1 out dead ho dm) λn hn=> .br (λ_=> .ret ho) λh=> ?_;have h: ¬n.1<0:=of_decide_eq_false h
  obtain⟨n0,n5,nm⟩:0<=n.1/\n.1<5/\n.1∉out:=by
   rcases hn with h'|h'
   ·omega
   ·exact h'
  obtain⟨r,r1,r2,r3,_,r5⟩:=YE out n.1 (by omega) ho.pair;rw[show F7 _ _=_ from r1,al];refine .ret ⟨⟨r,rfl,MV r2 λy hy=>((r3 y).1 hy).elim (λe=>by rw[e];exact⟨n0,n5⟩) (Jx ho y)⟩,?_⟩;show (want-(r.length:Int)).toNat< (want-(out.length:Int)).toNat;have:=r5 nm;omega
 ·cases y with
  |inl y=>exact .ret hy
  |inr y=>exact .ret hy
end
theorem ZI(x:oQ)(ok:C0 1048576 x)(want wit:Int):Tt (λy=>Eg 1048576 y.1) (Hq x want wit):=by
 have zero:Eg 1048576 ⟨0,0,[],[]⟩:=⟨bL _,bL _⟩
 obtain⟨v,v1,_⟩:=Ea x ok;unfold Hq;rw[v1,al,CD];refine .br (λe=> ?_) λ_=> .ret zero;subst e;have vc:=DK ok v1;rw[Dz,al,CD];refine .br (λ_=> ?_) λ_=> .ret zero;rw[Dz,al,CD];refine .br (λ_=> .br (λ_=> .ret zero) λ_=> ?_) λ_=> .ret zero;obtain⟨c,b,c1,c2,c3⟩:=UA x ok;obtain⟨r5,w5,inr,_,_,rasc⟩:=c3 vc;have rm:c.replicas.length<=maxLen:=by unfold maxLen;omega
 rw[YP x ok v1,al,c1,al];have up:=Vz (EY x) (n:=5) (by omega);generalize Mj (EY x) 5=u at up;have um:u.length<=maxLen:=by have:=up.len;unfold maxLen;omega
 refine .bind (.count (B:=Ix) (E:=λe=> ∃have':List Int,Le have'/\e=((want,wit,(),(),(),(),(),()),(fx x,(0,0,(),(),()),(c.epoch,c.primary,(),(),()),()),u,have',c.replicas,c.witnesses,())) c.replicas.length (λk (b:List Int)=>((want,wit,(),(),(),(),(),(k:Int),()),(fx x,(0,0,(),(),()),(c.epoch,c.primary,(),(),()),()),u,b,c.replicas,c.witnesses,())) (λk b=>b.Sublist (c.replicas.take k)) (λb hb=> .end (Cb _) (.ret ⟨b,?_,rfl⟩)) (λk b hk hb=> ?_) [] (List.nil_sublist _)) ?_
 ·rw[Ce] at hb;exact MV (rasc.pair.sublist hb) λy hy=>inr y (hb.subset hy)
 ·have sw:=Ad rm hk;have st:b.Sublist (c.replicas.take (k+1)):=hb.trans (List.take_sublist_take_left (cA k));refine .go (Ca.2 hk) (.ip ⟨B9 k,Ca.2 hk⟩ (.get (tn hk) λz _ hz=> ?_));rw[show Dj _ _=_ from (C8 u z um).1,al];refine .br (λ_=> .ip ⟨B9 k,Ca.2 hk⟩ (.get (tn hk) λz2 _ hz2=> .srv ok vc (inr z2 hz2) λs _ _ _=> .br (λ_=> .ip ⟨B9 k,Ca.2 hk⟩ (.get (tn hk) λz3 e3 _=> ?_)) λ_=> .ret ⟨b,by rw[sw],st⟩)) λ_=> .ret ⟨b,by rw[sw],st⟩;have e3:c.replicas[k]? =some z3:=e3
  have h2: (b++ [z3]).Sublist (c.replicas.take (k+1)):=by rw[Cg,e3];exact hb.append (List.Sublist.refl _)
  have h3:=h2.length_le;rw[cH] at h3;exact .ip (by show (b++ [z3]).length*8<=2 ^ 40;omega) (.ret ⟨b++ [z3],by rw[sw],h2⟩)
 ·rintro _ ⟨hv,ha,rfl⟩
  refine .bind (aat (CI ok.2.2.2) hv u ha up want) λp hp=> .br (λ_=> .ret zero) λh0=> ?_;have pl:=hp.len
  have p0:0<p.1.length:=by
   rcases bh p.1.length with h|h
   ·rw[h] at h0;cases h0
   ·exact h
  refine .ip ⟨cJ _,Ca.2 p0⟩ (.get p0 λq _ _=> ?_);rw[show Dj _ _=_ from (C8 p.1 c.primary (by unfold maxLen;omega)).1,al];have eU: ∀w:List Int,w.length<=1-> ∀ (e p':Int) (d:Bool),Tt (λy:mt×Bool×Unit=>Eg 1048576 y.1) (some (⟨e,p',p.1,w⟩,d,())):=λw hw _ _ _=> .ret ⟨by show p.1.length<=_;omega,by show w.length<=_;omega⟩
  extract_lets j43
  have h43: ∀p',Tt (λy=>Eg 1048576 y.1) (j43 p'):=λp'=>by unfold j43;refine .br (λ_=> ?_) λ_=>eU [] (by decide) _ _ _;rw[show DM _ _=_ from RB _ u Vu um,al];refine .bind (X4 (CI ok.2.2.2) vc.places p.1 _ hp ?_) λ_ _=> .br (λ_=>eU [_] (au 1) _ _ _) λ_=>eU [] (by decide) _ _ _;have:=(Vu.filter λx=> !decide (x∈u)).len;exact aR this (by unfold maxLen;omega)
  refine .br (λ_=> ?_) λ_=>h43 _;rw[show GN _=_ from I2 c c2,al];exact .br (λ_=>h43 _) λ_=>h43 _
theorem XQ(x:oQ)(ok:C0 1048576 x)(id t:Int):Tt (λy=>Kp x y.1) (Hs x id t):=by obtain⟨n,n1,n2⟩:=Uw x ok id;unfold Hs;rw[(Fu x ok).1,al,n1,al,CD];refine .br (λe=> ?_) λ_=> .ret (.self ok);obtain⟨hv,h0,h5⟩:=n2 (eq_of_beq e);have vc:=DK ok hv;have s5:=HU (CI ok.2.1) vc.sides;refine .srv ok vc ⟨h0,h5⟩ λs _ s2 _=> ?_;obtain⟨b,b1,_⟩:=Jv s id s2;rw[b1,al,CD];refine .br (λ_=> .br (λ_=> .ret (.self ok)) λ_=> .ip h0 (.get (by omega) λ_ _ _=> ?_)) λ_=> .ret (.self ok);rw[CD];refine .br (λ_=> ?_) λ_=> .ret (.self ok);rw[CD];refine .br (λ_=> ?_) λ_=> .ret (.self ok);obtain⟨l,d,g1,_⟩:=UK x.lease s.config.epoch id x.now t;rw[g1,al,CD];exact .br (λ_=> .ret ⟨ok,rfl⟩) λ_=> .ret (.self ok)
theorem YF(x:oQ)(ok:C0 1048576 x)(want term:Int):Tt (λy=>Kp x y.1) (HJ x want term):=by unfold HJ;rw[(Fu x ok).1,al];refine .bind (Kh x ok) λv _=> ?_;rw[CD];refine .br (λ_=> ?_) λ_=> .ret (.self ok);rw[Dz,al,CD];refine .br (λ_=> .bind (VA x ok) λ_ _=> .br (λ_=> .ret (.self ok)) λ_=> .bind (ZI x ok want 0) λn hn=> ?_) λ_=> .ret (.self ok);rw[CD];refine .br (λ_=> .bind (Pv x ok n.1 hn) λy hy=> ?_) λ_=> .ret (.self ok);rw[CD];refine .br (λ_=> ?_) λ_=> .ret (.self ok);obtain⟨t,t1,_⟩:=Uu x.lease;rw[t1,al];refine .bind (ZK y.1 hy.1 _) λz hz=> ?_;rw[CD];refine .br (λ_=> .bind (Pc z.1 hz.1) λa ha=> ?_) λ_=> .ret (.self ok);rw[CD];exact .br (λ_=> .bind (XQ a.1 ha.1 _ _) λr hr=> .ret (hy.trans (hz.trans (ha.trans hr)))) λ_=> .ret (hy.trans (hz.trans ha))
theorem aaP(x:oQ)(ok:C0 1048576 x)(to:Int):Tt (λy=>y.1=0->VC x) (JU x to):=by obtain⟨c,b,c1,c2,c3⟩:=UA x ok;unfold JU;rw[c1,al];refine .bind (Kh x ok) λv hv=> ?_;rw[CD];refine .br (λh=> ?_) λ_=> .ret nofun;have vc:=hv h;have s5:=HU (CI ok.2.1) vc.sides;rw[CD];refine .br (λhb=> ?_) λ_=> .ret nofun;obtain⟨r5,_,_,_,hp,_⟩:=c3 vc;have hp:=(hp hb).2;rw[(C8 c.replicas to (by unfold maxLen;omega)).1,al,CD];refine .br (λ_=> .br (λ_=> .ret nofun) λ_=> ?_) λ_=> .ret nofun;rw[CD];refine .br (λ_=> .br (λ_=> .ret nofun) λ_=> .br (λ_=> .ret nofun) λ_=> .bind (VA x ok) λ_ _=> ?_) λ_=> .ret nofun;rw[CD];refine .br (λ_=> .ip hp.1 (.get (by show c.primary.toNat<x.sides.length;omega) λ_ _ _=> ?_)) λ_=> .ret nofun;rw[CD];refine .br (λ_=> .br (λ_=> ?_) λ_=> .ret λ_=>vc) λ_=> .ret nofun;rw[CD];exact .br (λ_=> .ret λ_=>vc) λ_=> .ret nofun
theorem YM(x:oQ)(ok:C0 1048576 x)(to:Int):Tt (λy=>Kp x y.1) (GC x to):=by
 obtain⟨c,b,c1,c2,c3⟩:=UA x ok;unfold GC;rw[(Fu x ok).1,al];refine .bind (aaP x ok to) λn hn=> ?_;rw[CD];refine .br (λh=> ?_) λ_=> .ret (.self ok);obtain⟨r5,w5,_⟩:=c3 (hn (eq_of_beq h));rw[c1,al];refine .bind (Vw x ok c.primary) λy hy=> ?_;have hy':Kp x ⟨y.1.now,y.1.servers,y.1.sides,y.1.master,y.1.masterUp,⟨0,0,0⟩,y.1.places⟩:=⟨hy.1,hy.2⟩
 exact .bind (Pv _ hy'.1 ⟨_,to,c.replicas,c.witnesses⟩ ⟨by show c.replicas.length<=_;omega,by show c.witnesses.length<=_;omega⟩) λz hz=> .bind (Pc z.1 hz.1) λw hw=> .ret (hy'.trans (hz.trans hw))
end
section
theorem Tt.byte{α:Type}{Q:α->Prop}{b:ByteArray}{i:Nat}{k:UInt8->Option α}(hi:i<b.size)(h: ∀x,Tt Q (k x)):Tt Q ((b[i]?).bind k):=by rw[getElem?_pos b i hi];exact h _
theorem Rk(b:Int): (zO ((([b]:List Int).drop 0).take ([b]:List Int).length)).size=1:=rfl
theorem Gq(n:Int)(h:n.natAbs<=1000):Tt (λy=>y.1.size<=1001) (EG n):=by
 unfold EG;refine .br (λ_=> .ret (by decide)) λ_=> .bind (.loop (B:=JB) (E:=λe=>e.1.1.size<=1000) (λs=>s.1.2.1.size+s.1.1.natAbs<=1000) (λs=>s.1.1.natAbs) ?_ (by simpa using h)) λy hy=> .br (λ_=> .ip ?_ (.ret ?_)) λ_=> .ret (aR hy (by omega))
 ·rintro⟨⟨n,acc,neg,_⟩,_,_⟩ hs
  have hs:acc.size+n.natAbs<=1000:=hs;refine .br (λh0=> ?_) λ_=> .ret (by show acc.size<=1000;omega);have h0:n≠0:=λe=>by rw[e] at h0;cases h0
  have ha: (Int.tdiv n 10).natAbs=n.natAbs / 10:=Int.natAbs_tdiv n 10;have hw:IntKind.wrap .i64 (Int.tdiv n 10)=Int.tdiv n 10:=uc (by omega) (by omega);dsimp only;rw[hw];refine .br (λ_=> .ip ⟨Nat.one_pos,au _⟩ (.ip (by rw[Rk];omega) (.ret ⟨?_,?_⟩))) λ_=> .ip ⟨Nat.one_pos,au _⟩ (.ip (by rw[Rk];omega) (.ret ⟨?_,?_⟩))
  all_goals first
   | (show (_++acc).size+(Int.tdiv n 10).natAbs<=1000;rw[ByteArray.size_append,Rk];omega)
   | (show (Int.tdiv n 10).natAbs<n.natAbs;omega)
 ·show (⟨⟨[45]⟩⟩:ByteArray).size+y.1.1.size<=2 ^ 40;have : (⟨⟨[45]⟩⟩:ByteArray).size=1:=rfl;omega
 ·show ((⟨⟨[45]⟩⟩:ByteArray)++y.1.1).size<=1001;have : (⟨⟨[45]⟩⟩:ByteArray).size=1:=rfl;rw[ByteArray.size_append];omega
theorem Z8{o:Op}(h:Z7 o=true): (0<=o.client/\o.client<=2)/\(1<=o.seq/\o.seq<=99)/\(0<=o.object/\o.object<=2)/\(0<=o.value/\o.value<=9)/\(o.kind≠1->0<=o.old/\o.old<=9):=by
 obtain⟨h1,h2,h4⟩:=Z9 h;have h3:=V2 (show Dl o=some (true,()) by rw[Mw,h]);refine⟨CG.1 h1,CG.1 h2,h3,CG.1 h4,λhk=> ?_⟩;have h0:Dl o=some (true,()):=by rw[Mw,h]
 unfold Dl at h0;simp only[Dz,al,h1,h2,h4,CG.2 h3,cS,Af,beq_eq_false_iff_ne.2 hk] at h0;cases hk2: (o.kind==2) with
 |false=>rw[hk2] at h0;cases h0
 |true=>rw[hk2] at h0;simp only[A7,ae,ao,and_true] at h0;exact CG.1 h0
theorem Wi(o:Op):Tt (λy=>y.1.size<=10000) (KM o):=by
 unfold KM;rw[Mw,al,CD];refine .br (λh=> ?_) λ_=> .ret (by decide);obtain⟨n1,n2,n3,n4,n5⟩:=Z8 h;have e1: (⟨⟨[46]⟩⟩:ByteArray).size=1:=rfl;have e2: (⟨⟨[32]⟩⟩:ByteArray).size=1:=rfl;have e3: (⟨⟨[119,114,105,116,101,32]⟩⟩:ByteArray).size=6:=rfl;have e4: (⟨⟨[115,119,97,112,32]⟩⟩:ByteArray).size=5:=rfl;refine .bind (Gq _ (by omega)) λa ha=> .ip (by omega) (.bind (Gq _ (by omega)) λb hb=> .ip (by rw[ByteArray.size_append];omega) (.ip (by simp only[ByteArray.size_append];omega) (.br (λ_=> .ip (by simp only[ByteArray.size_append];omega) (.bind (Gq _ (by omega)) λc hc=> .ip (by simp only[ByteArray.size_append];omega) (.ip (by simp only[ByteArray.size_append];omega) (.bind (Gq _ (by omega)) λd hd=> .ip (by simp only[ByteArray.size_append];omega) (.ret ?_))))) λhk=> ?_)))
 ·show ByteArray.size _<=_;simp only[ByteArray.size_append];omega
 ·have n5:=n5 λe=>by rw[e] at hk;cases hk
  refine .ip (by simp only[ByteArray.size_append];omega) (.bind (Gq _ (by omega)) λc hc=> .ip (by simp only[ByteArray.size_append];omega) (.ip (by simp only[ByteArray.size_append];omega) (.bind (Gq _ (by omega)) λd hd=> .ip (by simp only[ByteArray.size_append];omega) (.ip (by simp only[ByteArray.size_append];omega) (.bind (Gq _ (by omega)) λe he=> .ip (by simp only[ByteArray.size_append];omega) (.ret ?_))))));show ByteArray.size _<=_;simp only[ByteArray.size_append];omega
theorem UJ(l:List pS)(hl:l.length<=maxLen):Tt (λy=>y.1.size<=1000000) (JS l):=by
 obtain⟨b,b1,b2⟩:=M8 hl;unfold JS;rw[b1,al,CD];refine .br (λe=> ?_) λ_=> .ret (by decide);have h16:=b2 e;subst e;have hlog:=((J1 l hl).1 b1).2;refine .br (λ_=> .ret (by decide)) λ_=> .bind (.count (B:=JC) (E:=λe=>e.1.1.size<=1000000) l.length (λk (b:ByteArray)=>((l,b,(k:Int),()),(),())) (λk b=>b.size<=k*20000) (λb hb=> .end (Cb _) (.ret (by show b.size<=_;omega))) (λk b hk hb=> ?_) ByteArray.empty (bL _)) λy hy=> .ret hy;have sw:=Ad hl hk;have e1: (⟨⟨[58]⟩⟩:ByteArray).size=1:=rfl;have e2: (⟨⟨[59]⟩⟩:ByteArray).size=1:=rfl;have hb:b.size<=k*20000:=hb;have hk2:k*20000<=16*20000:=bo _ (by omega);refine .go (Ca.2 hk) (.br (λ_=> .ip (by rw[e2];show b.size+1<=_;omega) (.ip (B9 k) (.get (tn hk) λe he _=> .bind (Gq _ ?_) λy hy=> ?_))) λ_=> .ip (B9 k) (.get (tn hk) λe he _=> .bind (Gq _ ?_) λy hy=> ?_))
 case refine_1|refine_3=>have:=hlog k hk;unfold Tg at this;rw[show l[k]? =some e from he] at this;simp only[aj] at this;have:=CG.1 this.1;omega
 all_goals
  dsimp only;rw[sw];refine .ip (by first |omega| (simp only[ByteArray.size_append];omega)) (.ip (by simp only[ByteArray.size_append];omega) (.ip (B9 k) (.get (tn hk) λe2 _ _=> .bind (Wi e2.op) λz hz=> .ip (by simp only[ByteArray.size_append];omega) (.ret ⟨_,rfl,?_⟩))));simp only[ByteArray.size_append];omega
theorem Wc(b:ByteArray)(hb:b.size<=1000000):Tt T1 (KK b):=by unfold KK;exact .bind (.count (B:=Kr) (E:=λ_=>True) b.size (λk (n:Int)=>((b,n,(k:Int),()),(),())) (λ_ _=>True) (λ_ _=> .end (Cb _) (.ret trivial)) (λk n hk _=> .go (Ca.2 hk) (.ip (B9 k) (.byte hk λx=> .ret ⟨_,by rw[Ad (n:=b.size) (by unfold maxLen;omega) hk],trivial⟩))) 5 trivial) λ_ _=> .ret trivial
theorem WQ(l:List pS)(hl:l.length<=maxLen):Tt (λy=>y.1.length<=l.length+1/\y.1.length<=17) (IJ l):=by
 obtain⟨b,b1,b2⟩:=M8 hl;unfold IJ;rw[b1,al,CD];refine .br (λe=> ?_) λ_=> .ret ⟨bL _,bL _⟩;have h16:=b2 e;refine .ip (by simp) (.bind (.count (B:=Iv) (E:=λe=>e.2.2.1.length<=l.length+1/\e.2.2.1.length<=17) l.length (λk (b:Int×List Int)=>((l,(),b.1,(k:Int),()),(),b.2,())) (λk b=>b.2.length=k+1) (λb hb=> .end (Cb _) (.ret (by show b.2.length<=_/\b.2.length<=_;omega))) (λk b hk hb=> ?_) (11,[11]) rfl) λy hy=> .ret hy);have sw:=Ad hl hk;refine .go (Ca.2 hk) ?_;dsimp only;rw[sw];refine .ip ⟨B9 k,by omega,Int.ofNat_le.2 hk⟩ (.bind (UJ _ (aR (by rw[cH,cd];omega) hl)) λy hy=> .bind (Wc y.1 hy) λz _=> .ip ?_ (.ret ⟨(_,_),rfl,?_⟩))
 ·rw[bH,cm,hb];omega
 ·rw[bH,cm,hb]
theorem Vy(l:List pS)(k:Int)(hl:l.length<=maxLen):Tt (λy=>y.1≠ -1->0<=k/\k<=(l.length:Int)) (Jg l k):=by unfold Jg;refine .bind (WQ l hl) λy hy=> ?_;rw[uc (n:=(y.1.length:Int)-1) (by omega) (by omega),Dz,al,CD];refine .br (λh=> ?_) λ_=> .ret λh=>absurd rfl h;have h:=CG.1 h;exact .ip (by omega) (.get (by omega) λ_ _ _=> .ret λ_=>by omega)
theorem aae(x:oQ)(ok:C0 1048576 x)(a b:Int):Tt (λy=>y.1=true->VC x/\(0<=a/\a<5)/\(0<=b/\b<5)) (JY x a b):=by
 unfold JY;refine .bind (Kh x ok) λv hv=> ?_;rw[CD];refine .br (λh=> ?_) λ_=> .ret nofun;have vc:=hv h;have h5:=HU (CI ok.2.1) vc.sides
 have side:Tt (λy:Bool×Unit=>y.1=true->(0<=a/\a<5)/\(0<=b/\b<5)) (Ez x.sides a b):=by unfold Ez;simp only[vc.sides,Dz,al,A7];refine .br (λha=> .br (λhb=> ?_) λ_=> .ret nofun) λ_=> .ret nofun;have ha:=CG.1 ha;have hb:=CG.1 hb;exact .ip ha.1 (.get (by omega) λ_ _ _=> .ip hb.1 (.get (by omega) λ_ _ _=> .ret λ_=>by omega))
 refine .bind side λy hy=> ?_;rw[CD];refine .br (λh=> ?_) λ_=> .ret nofun;obtain⟨ha,hb⟩:=hy h;refine .br (λ_=> .ret nofun) λ_=> .srv ok vc ha λs _ s2 _=> ?_;obtain⟨n,n1,_⟩:=Kg s.config a (CJ s2.1);obtain⟨m,m1,_⟩:=Kg s.config b (CJ s2.1);rw[n1,al,m1];have good: ∀d:Bool,Tt (λy:Bool×Unit=>y.1=true->VC x/\(0<=a/\a<5)/\(0<=b/\b<5)) (some (d,())):=λd=> .ret λ_=>⟨vc,ha,hb⟩
 exact .br (λ_=> .srv ok vc hb λ_ _ _ _=> .br (λ_=> .br (λ_=> .br (λ_=>good _) λ_=>good _) λ_=> .br (λ_=> .br (λ_=>good _) λ_=>good _) λ_=>good _) λ_=>good _) λ_=>good _
theorem aap(x:oQ)(ok:C0 1048576 x)(a b:Int):Tt (λy=>0<=y.1->VC x/\(0<=a/\a<5)/\(0<=b/\b<5)/\ ∃s l,x.servers[a.toNat]? =some s/\Df s=some (l,())/\l.length<=16/\y.1<=(l.length:Int)) (HE x a b):=by
 unfold HE;refine .bind (aae x ok a b) λv hv=> ?_;rw[CD];refine .br (λh=> ?_) λ_=> .ret λh=>absurd h (by decide);obtain⟨vc,ha,hb⟩:=hv h;refine .srv ok vc ha λs s1 s2 s3=> ?_;obtain⟨⟨l,_⟩,l1,l2⟩:=Og s s2 (TC s2 s3);have l2:l.length<=16:=l2;rw[l1,al];refine .srv ok vc hb λt _ t2 _=> .srv ok vc hb λu _ u2 _=> .bind (Q:=T1) ?_ λd _=> .bind (Q:=λy=>y.1=true->(t.learned.length:Int)<=(l.length:Int)) ?_ λp hp=> ?_
 ·unfold H0;exact .bind (Vy _ _ (CI u2.2.2)) λ_ _=> .ret trivial
 ·unfold IQ;refine .br (λhd=> .bind (Vy l _ (by unfold maxLen;omega)) λy hy=> .ret λe=> ?_) λ_=> .ret nofun;have hd:d.1≥0:=of_decide_eq_true hd;have e:=eq_of_beq e;exact (hy (by omega)).2
 ·have tl:=t2.2.2;rw[CD];refine .br (λe=> .ret λ_=>⟨vc,ha,hb,s,l,s1,l1,l2,?_⟩) λ_=> .ret λ_=>⟨vc,ha,hb,s,l,s1,l1,l2,?_⟩
  ·have:=hp e;show IntKind.wrap .i64 ((l.length:Int)-(t.learned.length:Int))<=_;rw[uc (by omega) (by omega)];omega
  ·show IntKind.wrap .i64 ((l.length:Int)-0)<=_;rw[uc (by omega) (by omega)];omega
theorem ZR(x:oQ)(ok:C0 1048576 x)(a b n:Int):Tt (λy=>Kp x y.1) (HF x a b n):=by
 unfold HF;rw[(Fu x ok).1,al];refine .bind (aap x ok a b) λy hy=> .br (λ_=> .ret (.self ok)) λh=> ?_;have h: ¬y.1<0:=of_decide_eq_false h;obtain⟨vc,ha,hb,s,l,s1,l1,l2,le⟩:=hy (by omega);rw[Dz,al,CD];refine .br (λw=> .ip ha.1 ?_) λ_=> .ret (.self ok);have w:=CG.1 w;rw[s1,al,l1,al];dsimp only;have hm: (if n<y.1 then n else y.1)<=y.1/\0<=(if n<y.1 then n else y.1):=by split<;>omega
 generalize (if n<y.1 then n else y.1)=m at hm;rw[uc (n:=(l.length:Int)-y.1) (by omega) (by omega),uc (n:=(l.length:Int)-y.1+m) (by omega) (by omega)]
 have hl: ((l.drop (0+(0:Int).toNat)).take (((l.length:Int)-y.1+m).toNat-(0:Int).toNat)).length<=1048576:=by rw[cH,cd];omega
 refine .ip (by omega) (.ip (by omega) ?_);rw[OE hl,al];exact .at vc.len hb λu _ hu=> .ret ((Kp.self ok).set (s:=⟨u.up,u.intact,u.version,u.epoch,u.config,u.first,u.log,u.commit,(l.drop (0+(0:Int).toNat)).take (((l.length:Int)-y.1+m).toNat-(0:Int).toNat)⟩) ⟨(ok.1.2 u hu).1,(ok.1.2 u hu).2.1,hl⟩ _)
theorem W7{x y:oQ}{n:Int}{r:Option (oQ×Int×Unit)}(h:r=some (y,n,())/\C0 1048576 y/\y.servers.length=x.servers.length):Tt (λz=>Kp x z.1) r:=⟨_,h.1,h.2⟩
theorem aaB(x:oQ)(ok:C0 1048576 x)(e:u7):Tt (λy=>Kp x y.1) (LR x e):=by obtain⟨_,_,c1⟩:=ZT x ok e.server;obtain⟨_,_,c2⟩:=XR x ok e.server;obtain⟨_,_,c3⟩:=YX x ok e.server;obtain⟨_,_,c4⟩:=aas x ok e.server e.n;obtain⟨_,_,c5⟩:=XK x ok e.n;unfold LR;refine .br (λ_=> .bind (XQ x ok _ _) λy hy=> .ret hy) λ_=> .br (λ_=> .bind (ZI x ok _ _) λn hn=> ?_) λ_=> .br (λ_=> .bind (Pc x ok) λy hy=> .ret hy) λ_=> .br (λ_=> .bind (W7 c1) λy hy=> .ret hy) λ_=> .br (λ_=> .bind (W7 c2) λy hy=> .ret hy) λ_=> .br (λ_=> .bind (W7 c3) λy hy=> .ret hy) λ_=> .br (λ_=> .bind (W7 c4) λy hy=> .ret hy) λ_=> .br (λ_=> .bind (W7 c5) λy hy=> .ret hy) λ_=> .br (λ_=> .bind (ZK x ok _) λy hy=> .ret hy) λ_=> .br (λ_=> .bind (ZR x ok _ _ _) λy hy=> .br (λ_=> .ret hy) λ_=> .ret hy) λ_=> .br (λ_=> .bind (X6 x ok _) λy hy=> .ret hy) λ_=> .br (λ_=> .bind (UI x ok _) λy hy=> .ret hy) λ_=> .br (λ_=> .bind (YM x ok _) λy hy=> .ret hy) λ_=> .bind (YF x ok _ _) λy hy=> .ret hy;rw[CD];refine .br (λ_=> .bind (Pv x ok _ hn) λy hy=> .ret hy) λ_=> ?_;rw[(Fu x ok).1];exact .ret (.self ok)
theorem aaE(k:Int):Tt T1 (LS k):=by
 unfold LS
 repeat first |exact .ret trivial|refine .br (λ_=> ?_) λ_=> ?_
theorem X7(e:u7):Tt T1 (G4 e):=by
 unfold G4;simp only[Dz,al,Mw];refine .br (λ_=> .ret trivial) λ_=> .br (λ_=> .ret trivial) λ_=> .br (λ_=> .ret trivial) λ_=> .br (λ_=> .ret trivial) λ_=> .bind (aaE _) λ_ _=> ?_
 repeat first |exact .ret trivial|refine .br (λ_=> ?_) λ_=> ?_
theorem WH(x:oQ)(ok:C0 1048576 x)(e:u7):Tt (λy=>Kp x y.1) (KP x e):=by unfold KP;rw[(Fu x ok).1];refine .bind (Kh x ok) λ_ _=> .br (λ_=> .ret (Kp.self ok)) λ_=> .bind (X7 e) λ_ _=> .br (λ_=> .ret (Kp.self ok)) λ_=> .br (λ_=> .bind (Yb x ok _ _) λy hy=> .ret hy) λ_=> .br (λ_=> ?_) λ_=> .bind (aaB x ok e) λy hy=> .ret hy;exact .bind (Q:=λy=>Kp x y.1) ⟨_,rfl,Kp.self ok⟩ λy hy=> .bind (U3 x ok _ _) λ_ _=> .ret hy
theorem Vn(x:oQ)(ok:C0 1048576 x)(l:List u7)(hl:l.length<=1048576):Tt (λy=>Kp x y.1/\y.2.1.length<=l.length) (JV x l):=by
 have lm:=CI hl;unfold JV;rw[(Fu x ok).1,al];refine .bind (.count (B:=JF) (E:=λe=> ∃ (c:oQ) (r:List vd),Kp x c/\r.length<=l.length/\e=(((),(),(),()),(fz,fc c,()),r,c.servers,c.sides,c.master.configs,c.places,())) l.length (λk (b:oQ×List vd)=>((l,(),(),(),(k:Int),()),(fz,fc b.1,()),b.2,b.1.servers,b.1.sides,b.1.master.configs,b.1.places,())) (λk b=>Kp x b.1/\b.2.length<=k) (λb hb=> .end (Cb _) (.ret ⟨b.1,b.2,hb.1,hb.2,rfl⟩)) (λk b hk hb=> .go (Ca.2 hk) (.br (λ_=> .ip (B9 k) (.get (tn hk) λe _ _=> .bind (WH b.1 hb.1.1 e) λy hy=> .ip ?_ (.ret ⟨(y.1,b.2++ [y.2.1]),by rw[Ad lm hk],hb.1.trans hy,?_⟩))) λ_=> .ret ⟨b.1,b.2,hb.1,by omega,rfl⟩)) (x,[]) ⟨.self ok,au _⟩) ?_
 ·show (b.2++ [y.2.1]).length*32<=2 ^ 40;rw[bH,cm];omega
 ·rw[bH,cm];omega
 ·rintro _ ⟨c,r,hc,hr,rfl⟩
  exact .ret ⟨hc,hr⟩
end
section
section
variable [dp]
theorem Tt.dn{α β:Type}{Q:α->Prop}{Q':β->Prop}{r:Option (List oS×α)}{k:List oS×α->Option β}(h:Dn Q r)(hk: ∀c a,Dv c->Q a->Tt Q' (k ([c],a))):Tt Q' (r.bind k):=by obtain⟨c,a,rfl,h1,h2⟩:=h;exact hk c a h1 h2
theorem Dn.tt{α β:Type}{Q:α->Prop}{Q':β->Prop}{r:Option α}{k:α->Option (List oS×β)}(h:Tt Q r)(hk: ∀a,Q a->Dn Q' (k a)):Dn Q' (r.bind k):=by obtain⟨a,rfl,h⟩:=h;exact hk a h
theorem WR{α:Type}{Q:α->Prop}{r:Option (List oS×α)}(h:Tt (λy=> ∃c,y.1= [c] /\Dv c/\Q y.2) r):Dn Q r:=by obtain⟨⟨_,a⟩,rfl,c,rfl,h1,h2⟩:=h;exact⟨c,a,rfl,h1,h2⟩
theorem X1{c:oS}(h:Dv c):Dn (λy:List Int×Unit=>Le y.1) (JZ [c]):=by
 refine WR ?_;unfold JZ;refine .bind (.count (B:=Mo) (E:=λe=> ∃c,e.2.2.1= [c] /\Dv c/\Le e.2.2.2.1) 5 (λk (b:oS×List Int)=>(((),(),(k:Int),()),(),[b.1],b.2,())) (λk b=>Dv b.1/\b.2.length<=k/\SS b.2/\ ∀y∈b.2,0<=y/\y< (k:Int)) (λb hb=> .end (Cb _) (.ret ⟨b.1,rfl,hb.1,MV hb.2.2.1 hb.2.2.2⟩)) (λk b hk hb=> ?_) (c,[]) ⟨h,au _,List.Pairwise.nil,nofun⟩) λy hy=> .ret hy;obtain⟨h1,h2,h3,h4⟩:=hb;have sw:=Ad (n:=5) (by decide) hk;have stay: ∀y∈b.2,0<=y/\y< ((k+1:Nat):Int):=λy hy=>by have:=h4 y hy;omega
 refine .go (show (k:Int)<5 by omega) (.dn (FC h1 2) λc1 _ hc _=> .ip rfl (.br (λ_=> .ip (by show (b.2++ [(k:Int)]).length*8<=2 ^ 40;rw[bH,cm];omega) (.ret ⟨(c1,b.2++ [(k:Int)]),by rw[sw],hc,by rw[bH,cm];omega,?_,λy hy=> ?_⟩)) λ_=> .ret ⟨(c1,b.2),by rw[sw],hc,Ci h2,h3,stay⟩))
 ·exact Cj.2 ⟨h3,Cr _ _,λy hy z hz=>by rw[aH.1 hz];exact (h4 y hy).2⟩
 ·rcases bq.1 hy with hy|hy
  ·exact stay y hy
  ·rw[aH.1 hy];omega
omit [dp] in
theorem XP{l:List sV}(h5:l.length=5)(h: ∀p∈l,(0<=p.rack/\p.rack<=9)/\(0<=p.capacity/\p.capacity<=9)/\0<=p.load/\p.load<=99):Di l=some (true,()):=by
 have lm:l.length<=maxLen:=by unfold maxLen;omega
 have eU:Tt (λy:Bool×Unit=>y.1=true) (Di l):=by
  unfold Di;refine .bind (.count (B:=FZ) (E:=Sum.elim (λ_=>False) λe=>e.1.1=l) l.length (λk (_:Unit)=>((l,(k:Int),()),(),())) (λ_ _=>True) (λ_ _=> .end (Cb _) (.ret rfl)) (λk _ hk _=> .go (Ca.2 hk) (.ip (B9 k) (.get (tn hk) λp _ hp=> ?_))) () trivial) λy hy=> ?_
  ·obtain⟨h1,_⟩:=h p hp;rw[Dz,CG.2 h1,al];refine .br (λh=>by cases h) λ_=> .ip (B9 k) (.get (tn hk) λq _ hq=> ?_);obtain⟨_,h2,_⟩:=h q hq;rw[Dz,CG.2 h2,al];refine .br (λh=>by cases h) λ_=> .ip (B9 k) (.get (tn hk) λr _ hr=> ?_);obtain⟨_,_,h3⟩:=h r hr;rw[Dz,CG.2 h3,al];exact .br (λh=>by cases h) λ_=> .ret ⟨(),by rw[Ad lm hk],trivial⟩
  ·cases y with
   |inl y=>exact hy.elim
   |inr y=>refine .ret ?_;show ((y.1.1.length:Int)==5)=true;rw[show y.1.1=l from hy,h5];rfl
 obtain⟨⟨b,_⟩,e,rfl⟩:=eU;exact e
theorem V3{c:oS}(h:Dv c):Dn (λy:List sV×Unit=>y.1.length=5/\Di y.1=some (true,())) (Jl [c]):=by
 refine WR ?_;unfold Jl;refine .bind (.count (B:=Ks) (E:=λe=> ∃c,e.2.2.1= [c] /\Dv c/\e.2.2.2.1.length=5/\Di e.2.2.2.1=some (true,())) 5 (λk (b:oS×List sV)=>(((),(),(k:Int),()),(),[b.1],b.2,())) (λk b=>Dv b.1/\b.2.length=k/\ ∀p∈b.2,(0<=p.rack/\p.rack<=9)/\(0<=p.capacity/\p.capacity<=9)/\0<=p.load/\p.load<=99) (λb hb=> .end (Cb _) (.ret ⟨b.1,rfl,hb.1,hb.2.1,XP hb.2.1 hb.2.2⟩)) (λk b hk hb=> ?_) (c,[]) ⟨h,rfl,nofun⟩) λy hy=> .ret hy;obtain⟨h1,h2,h3⟩:=hb;refine .go (show (k:Int)<5 by omega) (.dn (Hy h1 (n:=4) (by omega)) λc1 x g1 hx=> .ip rfl (.dn (Hy g1 (n:=4) (by omega)) λc2 y g2 hy=> .ip rfl (.dn (Hy g2 (n:=4) (by omega)) λc3 z g3 hz=> .ip rfl (.ip ?_ (.ret ⟨(c3,b.2++ [⟨x.1,1+y.1,z.1⟩]),?_,g3,by rw[bH,cm,h2],λp hp=> ?_⟩)))))
 ·rw[bH,cm,show List.length _=k from h2];omega
 ·dsimp only;rw[Ad (n:=5) (by decide) hk,uc (n:=1+y.1) (by omega) (by omega)]
 ·rcases bq.1 hp with hp|hp
  ·exact h3 p hp
  ·rw[aH.1 hp];show (0<=x.1/\x.1<=9)/\(0<=1+y.1/\1+y.1<=9)/\0<=z.1/\z.1<=99;omega
omit [dp] in
theorem V0(v:Int):Tt (λy=>C9 1048576 y.1) (Ik v):=by
 unfold Ik;rw[Dz,al];have ok: ∀v:Int,C9 1048576 ⟨true,true,v,0,⟨0,0,[],[]⟩,0,[],0,[]⟩:=λ_=>⟨⟨bL _,bL _⟩,bL _,bL _⟩
 exact .br (λ_=> .ret (ok _)) λ_=> .ret (ok _)
omit [dp] in
theorem Z6(l:List sV)(hl:l.length<=1048576):Tt (λy=>C0 1048576 y.1/\(Di l=some (true,())->y.1.servers.length=5)) (IP l):=by
 obtain⟨v,v1,_⟩:=Jc l (CI hl);unfold IP;rw[v1,al,CD];refine .br (λe=> .ip (by decide) (.ip ?_ (.bind (.count (B:=Iw) (E:=λe=> ∃S:List oU,S.length=5/\(∀s∈S,C9 1048576 s)/\e=(((),(),()),(fz,(0,(),(),(),0,3,0,0,0,(),()),()),S,List.replicate (5:Int).toNat (0:Int),[] ++l,())) 5 (λk (S:List oU)=>(((),(),(k:Int),()),(fz,(0,(),(),(),0,3,0,0,0,(),()),()),S,List.replicate (5:Int).toNat (0:Int),[] ++l,())) (λk S=>S.length=k/\ ∀s∈S,C9 1048576 s) (λS hS=> .end (Cb _) (.ret ⟨S,hS.1,hS.2,rfl⟩)) (λk S hk hS=> .go (show (k:Int)<5 by omega) (.bind (V0 1) λs hs=> .ip ?_ (.ret ⟨S++ [s.1],by rw[Ad (n:=5) (by decide) hk],by rw[bH,cm,hS.1],λt ht=> ?_⟩))) [] ⟨rfl,nofun⟩) ?_))) λ_=> .ret ⟨⟨⟨bL _,nofun⟩,bL _,⟨bL _,nofun⟩,bL _⟩,λe=>by simp_all⟩
 ·rw[bC];omega
 ·rw[bH,cm,show List.length _=k from hS.1];omega
 ·exact (bq.1 ht).elim (hS.2 t) λe=>by rw[aH.1 e];exact hs
 ·rintro _ ⟨S,h5,hS,rfl⟩
  exact .ret ⟨⟨⟨by show S.length<=_;omega,hS⟩,by show (List.replicate (5:Int).toNat (0:Int)).length<=_;decide,⟨bL _,nofun⟩,hl⟩,λ_=>h5⟩
omit [dp] in
theorem Vv{e p:Int}{R W:List Int}(he:1<=e/\e<=20)(hR:Le R)(hW:Le W)(hp:p∈R)(hd: ∀y∈R,y∉W):CE ⟨e,p,R,W⟩=some (true,()):=by have hr:=hR.len;have hw:=hW.len;unfold CE;simp only[Dz,CG.2 he,al,A7,(NA hR).1,(NA hW).1,(C8 R p (by unfold maxLen;omega)).1,decide_eq_true hp,NK R W hR (by unfold maxLen;omega)];rw[List.filter_eq_nil_iff.2 λy hy h=>hd y hy (of_decide_eq_true h)];rfl
theorem ZS{c:oS}(h:Dv c)(e:Int):Dn (λy:mt×Unit=>y.1.epoch=e/\y.1.replicas.length<=5/\y.1.witnesses.length<=5/\(1<=e/\e<=20->CE y.1=some (true,()))) (H9 [c] e):=by
 unfold H9;refine .bind (Hy h (n:=5) (by omega)) λc1 p h1 hp=> .iteP rfl (.bind (X1 h1) λc2 l h2 hl=> .iteP rfl ?_);obtain⟨r,r1,r2,r3,_⟩:=YE l.1 p.1 (by have:=hl.len;omega) hl.pair;rw[show F7 _ _=_ from r1,al]
 have eU: ∀R:List Int,Le R->p.1∈R->Dn (λy:mt×Unit=>y.1.epoch=e/\y.1.replicas.length<=5/\y.1.witnesses.length<=5/\(1<=e/\e<=20->CE y.1=some (true,()))) ((DN [c2] 2).bind λy5=>iteP (y5.1.length=([c2]:List oS).length) (br y5.2.1 ((JZ y5.1).bind λy6=>iteP (y6.1.length=y5.1.length) ((DM y6.2.1 R).bind λy7=>br (decide ((y7.1.length:Int)>0)) (iteP (0<=(0:Int)/\(0:Int)<=(1:Int)/\(1:Int)<=((y7.1.length:Nat):Int)) (iteP ((0+(0:Int).toNat)=0/\((1:Int).toNat-(0:Int).toNat)<=y7.1.length) (some (y6.1,(⟨e,p.1,R,(y7.1.take ((1:Int).toNat-(0:Int).toNat))⟩:mt),())) (iteP ((0+(0:Int).toNat)+((1:Int).toNat-(0:Int).toNat)<=y7.1.length) (some (y6.1,(⟨e,p.1,R,((y7.1.drop (0+(0:Int).toNat)).take ((1:Int).toNat-(0:Int).toNat))⟩:mt),())) none)) none) (some (y6.1,(⟨e,p.1,R,([]:List Int)⟩:mt),()))) none) (some (y5.1,(⟨e,p.1,R,([]:List Int)⟩:mt),()))) none):=λR hR hpR=>by
  have nil:Le [] :=λk hk=>by simp at hk
  have rl:=hR.len;refine .bind (FC h2 2) λc3 _ h3 _=> .iteP rfl (.br (λ_=> .bind (X1 h3) λc4 w h4 hw=> .iteP rfl ?_) λ_=> .ret h3 ⟨rfl,rl,bL _,λhe=>Vv he hR nil hpR λ_ _=>nofun⟩);rw[show DM _ _=_ from RB w.1 R hw (by unfold maxLen;omega),al];have hf:=hw.filter λx=> !decide (x∈R)
  have hn: ∀y∈R,y∉w.1.filter λx=> !decide (x∈R):=λy hy h=>by have:=(Cw.1 h).2;simp[hy] at this
  have fl:=hf.len;generalize w.1.filter (λx=> !decide (x∈R))=f at hf hn fl;refine .br (λhpos=> ?_) λ_=> .ret h4 ⟨rfl,rl,bL _,λhe=>Vv he hR nil hpR λ_ _=>nofun⟩;have hpos: (f.length:Int)>0:=of_decide_eq_true hpos;refine .iteP (by show (0:Int)<=0/\(0:Int)<=1/\(1:Int)<=(f.length:Int);omega) (.iteP (by show 0=0/\1<=f.length;omega) (.ret h4 ⟨rfl,rl,?_,λhe=>Vv he hR ?_ hpR λy hy h=>hn y hy (bK h)⟩))
  ·show (f.take _).length<=5;rw[cH];omega
  ·exact MV (hf.pair.sublist (List.take_sublist _ _)) λy hy=>Jx hf y (bK hy)
 have ra:Le r:=MV r2 λy hy=>((r3 y).1 hy).elim (λe=>by rw[e];exact hp) (Jx hl y);refine .br (λ_=>eU [p.1] (MV (Cr _ _) λy hy=>by rw[aH.1 hy];exact hp) (aH.2 rfl)) λ_=>eU r ra ((r3 _).2 (.inl rfl))
omit [dp] in
theorem Z4{M:jr}(h:Ju 1048576 M)(hl:M.configs.length<=1000){c:mt}(hc:Eg 1048576 c):Ju 1048576 ⟨M.configs++ [c],M.activated⟩:=⟨by show (M.configs++ [c]).length<=_;rw[bH,cm];omega,λd hd=>(bq.1 hd).elim (h.2 d) λe=>by rw[aH.1 e];exact hc⟩
theorem aaj{c:oS}(h:Dv c):Dn (λy:List Int×Unit=>y.1.length<=6) (ND [c]):=by
 unfold ND;refine .bind (X1 h) λc1 l h1 hl=> .iteP rfl (.bind (FC h1 _) λc2 _ h2 _=> .iteP rfl (.br (λ_=> .bind (E7 h2 (by simp)) λc3 x h3 _=> .iteP rfl ?_) λ_=> .ret h2 ?_))
 ·have:=hl.len;refine .iteP ?_ (.ret h3 ?_)
  ·show (l.1++ [x.1]).length*8<=2 ^ 40;rw[bH,cm];omega
  ·show (l.1++ [x.1]).length<=6;rw[bH,cm];omega
 ·exact aR hl.len (by omega)
theorem WM{c:oS}(h:Dv c):Dn (λy:mt×Unit=>Eg 1048576 y.1) (NH [c]):=by
 unfold NH;refine .bind (Eo h _) λc1 e h1 _=> .iteP rfl (.bind (ZS h1 _) λc2 g h2 hg=> .iteP rfl (.bind (Eo h2 _) λc3 x h3 _=> .iteP rfl ?_));obtain⟨_,g1,g2,_⟩:=hg;have ok:Eg 1048576 g.1:=⟨by omega,by omega⟩
 refine .br (λ_=> .bind (E7 h3 (by simp)) λc4 _ h4 _=> .iteP rfl (.ret h4 ok)) λ_=> .br (λ_=> .bind (Eo h3 _) λc4 _ h4 _=> .iteP rfl (.ret h4 ok)) λ_=> .br (λ_=> .bind (aaj h3) λc4 l h4 hl=> .iteP rfl (.ret h4 ⟨by show l.1.length<=_;omega,ok.2⟩)) λ_=> .br (λ_=> .bind (aaj h3) λc4 l h4 hl=> .iteP rfl (.ret h4 ⟨ok.1,by show l.1.length<=_;omega⟩)) λ_=> .ret h3 ok
theorem aaO{c:oS}(h:Dv c):Dn (λy:jr×Unit=>Ju 1048576 y.1/\y.1.configs.length<=10) (M0 [c]):=by
 unfold M0;refine .bind (Hy h (n:=5) (by omega)) λc1 n h1 hn=> .iteP rfl (WR (.bind (.loop (B:=Mm) (E:=λe=> ∃c,e.2.2.1= [c] /\Dv c/\Ju 1048576 ⟨e.2.2.2.1,e.2.1.2.1.2.1⟩/\e.2.2.2.1.length<=10) (λs=> ∃ (c:oS) (M:jr) (k:Int),s=(((),(),(),k,()),(((),0,()),((),M.activated,()),()),[c],M.configs,())/\Dv c/\Ju 1048576 M/\0<=k/\M.configs.length+k.toNat<=10) (λs=>s.1.2.2.2.1.toNat) ?_ ⟨c1,⟨[],0⟩,n.1,rfl,h1,⟨bL _,nofun⟩,hn.1,by show 0+n.1.toNat<=10;omega⟩) λy hy=> .ret hy))
 rintro _ ⟨c,M,k,rfl,hc,hM,h0,hl⟩
 refine .br (λhk=> ?_) λ_=> .ret ⟨c,rfl,hc,hM,by show M.configs.length<=10;omega⟩;have hk:k>0:=of_decide_eq_true hk;have hw:IntKind.wrap .i64 (k-1)=k-1:=uc (by omega) (by omega);refine .dn (ZS hc _) λc2 g h2 hg=> .ip rfl (.bind (PV M hM g.1 ⟨by omega,by omega⟩) λm hm=> .dn (FC h2 _) λc3 _ h3 _=> .ip rfl (.br (λ_=> .bind (Qt m.1 hm.1 _) λa ha=> .ret ⟨⟨c3,a.1,k-1,by dsimp only;rw[hw],h3,ha.1,by omega,by omega⟩,?_⟩) λ_=> .ret ⟨⟨c3,m.1,k-1,by dsimp only;rw[hw],h3,hm.1,by omega,by omega⟩,?_⟩))
 all_goals
  show (IntKind.wrap .i64 (k-1)).toNat<k.toNat;rw[hw];omega
theorem aaH{c:oS}(h:Dv c):Dn (λy:jr×Unit=>Ju 1048576 y.1) (MZ [c]):=by unfold MZ;refine .bind (aaO h) λc1 m h1 hm=> .iteP rfl (.bind (Eo h1 _) λc2 _ h2 _=> .iteP rfl (.br (λ_=> .bind (E7 h2 (by simp)) λc3 _ h3 _=> .iteP rfl (.ret h3 hm.1)) λ_=> .br (λ_=> .bind (WM h2) λc3 g h3 hg=> .iteP rfl (.iteP ?_ (.ret h3 (Z4 hm.1 (by omega) hg)))) λ_=> .ret h2 hm.1));show (m.1.configs++ [g.1]).length*64<=2 ^ 40;rw[bH,cm];omega
omit [dp] in
theorem XL(c:mt)(h:Eg maxLen c)(hv:CE c=some (true,())):Tt (λy=>0<y.1.length/\y.1.length<=10) (C5 c):=by unfold C5;rw[hv,al];refine .br (λh=>by cases h) λ_=> ?_;obtain⟨a1,a2,a3,_⟩:=FO h hv;have l1:=a1.len;have l2:=a2.len;obtain⟨r,r1,_,r4,r5⟩:=Vo c.replicas c.witnesses (by omega) (by omega);rw[r1];exact .ret ⟨List.length_pos_of_mem ((r4 c.primary).2 (.inl a3)),by show r.length<=10;omega⟩
omit [dp] in
theorem aaK(l:List pS)(e:Int)(hl:l.length<=1048576):Tt (λy=>y.1.length<=1048576) (M3 l e):=by
 unfold M3;refine .bind (.count (B:=Mn) (E:=λy=> ∃k:Nat,k<=l.length/\y=((l,(k:Int),()),(),())) l.length (λk (_:Unit)=>((l,e,(k:Int),()),(),())) (λ_ _=>True) (λ_ _=> .end (Cb _) (.ret ⟨l.length,au _,rfl⟩)) (λk _ hk _=> .go (Ca.2 hk) (.ip (B9 k) (.get (tn hk) λ_ _ _=> .br (λ_=> .ret ⟨(),by rw[Ad (CI hl) hk],trivial⟩) λ_=> .ret ⟨k,Nat.le_of_lt hk,rfl⟩))) () trivial) ?_
 rintro _ ⟨k,hk,rfl⟩
 have h2: ((l.drop (0:Int).toNat).take ((k:Int).toNat-(0:Int).toNat)).length<=1048576:=by rw[cH,cd];omega
 exact .ip ⟨cJ _,B9 k,Int.ofNat_le.2 hk⟩ (.bind (Q:=λy=>y.1.length<=1048576) ⟨_,OE h2,h2⟩ λy hy=> .ret hy)
theorem YH{c:oS}(h:Dv c):Dn (λy:oU×Int×Unit=>C9 1048576 y.1) (JX [c]):=by
 unfold JX;refine .bind (Eo h _) λc1 _ h1 _=> .iteP rfl (.tt (V0 _) λs hs=> .bind (Hy h1 (n:=3) (by omega)) λc2 e h2 he=> .iteP rfl (.bind (ZS h2 _) λc3 g h3 hg=> .iteP rfl ?_));have hw:IntKind.wrap .i64 (1+e.1)=1+e.1:=uc (by omega) (by omega);obtain⟨g0,g1,g2,g3⟩:=hg;have g3:=g3 (by rw[hw];omega);have okc:Eg 1048576 g.1:=⟨by omega,by omega⟩
 refine .tt (XL g.1 (CJ okc) g3) λm hm=> .bind (Hy h3 (n:=(m.1.length:Int)) (by omega)) λc4 i h4 hi=> .iteP rfl (.iteP hi (.get (by show i.1.toNat<m.1.length;omega) λz _=> .bind (FC h4 _) λc5 _ h5 _=> .iteP rfl ?_))
 have fin: ∀ (c6:oS) (t:oU),Dv c6->C9 1048576 t-> ∀up:Bool,Dn (λy:oU×Int×Unit=>C9 1048576 y.1) ((DN [c6] 4).bind λy46=>iteP (y46.1.length=([c6]:List oS).length) (br y46.2.1 ((CF y46.1 3).bind λy47=>iteP (y47.1.length=y46.1.length) ((FT (⟨up,t.intact,t.version,t.epoch,t.config,t.first,t.log,t.commit,t.learned⟩:oU) (IntKind.wrap .i64 (4+y47.2.1))).bind λy48=>some (y47.1,y48.1,z,())) none) (some (y46.1,(⟨up,t.intact,t.version,t.epoch,t.config,t.first,t.log,t.commit,t.learned⟩:oU),z,()))) none):=λc6 t h6 ht up=>.bind (FC h6 _) λc7 _ h7 _=> .iteP rfl (.br (λ_=> .bind (Eo h7 _) λc8 _ h8 _=> .iteP rfl (.tt (Uv ⟨up,t.intact,t.version,t.epoch,t.config,t.first,t.log,t.commit,t.learned⟩ _ ht) λu hu=> .ret h8 hu)) λ_=> .ret h7 ht)
 rw[CD];refine .br (λ_=> .bind (FC h5 _) λc6 _ h6 _=> .iteP rfl (.br (λ_=>fin c6 s.1 h6 hs _) λ_=>fin c6 s.1 h6 hs _)) λ_=> .bind (Xk h5) λc6 l h6 hl=> .iteP rfl (.tt (aaK l.1 _ (by omega)) λl2 hl2=> .tt (TT s.1 g.1 z l2.1 hs okc hl2) λt ht=> .bind (FC h6 _) λc7 _ h7 _=> .iteP rfl (.br (λ_=>fin c7 t.1 h7 ht _) λ_=>fin c7 t.1 h7 ht _))
theorem WI{c:oS}(h:Dv c):Dn (λy:oU×Int×Unit=>C9 1048576 y.1) (M2 [c]):=by unfold M2;refine .bind (YH h) λc1 s h1 hs=> .iteP rfl (.bind (Eo h1 _) λc2 _ h2 _=> .iteP rfl ?_);refine .br (λ_=> .bind (E7 h2 (by simp)) λc3 _ h3 _=> .iteP rfl (.ret h3 hs)) λ_=> .br (λ_=> .bind (E7 h2 (by simp)) λc3 _ h3 _=> .iteP rfl (.ret h3 hs)) λ_=> .br (λ_=> .bind (WM h2) λc3 g h3 hg=> .iteP rfl (.ret h3 ⟨hg,hs.2⟩)) λ_=> .br (λ_=> .bind (E7 h2 (by simp)) λc3 _ h3 _=> .iteP rfl (.ret h3 hs)) λ_=> .br (λ_=> .bind (E7 h2 (by simp)) λc3 _ h3 _=> .iteP rfl (.ret h3 hs)) λ_=> .br (λ_=> .bind (Eo h2 _) λc3 _ h3 _=> .iteP rfl (.ret h3 hs)) λ_=> .br (λ_=> .bind (Sx h2) λc3 l h3 hl=> .iteP rfl (.ret h3 ⟨hs.1,by show l.1.length<=_;omega,hs.2.2⟩)) λ_=> .ret h2 hs
theorem XZ{c:oS}(h:Dv c):Dn (λy:List Int×Unit=>y.1.length<=5) (M4 [c]):=by
 unfold M4;refine .bind (X0 h) λc1 l h1 hl=> .iteP rfl (.bind (Eo h1 _) λc2 _ h2 _=> .iteP rfl (.br (λ_=> ?_) λ_=> .br (λ_=> .bind (E7 h2 (by simp)) λc3 x h3 _=> .iteP rfl (.iteP ?_ (.get ?_ λ_ _=> .ret h3 ?_))) λ_=> .ret h2 (Nat.le_of_eq hl)))
 ·have hl:l.1.length=5:=hl;refine .iteP (by show (0:Int)<=1/\(1:Int)<=(l.1.length:Int)/\(l.1.length:Int)<=(l.1.length:Int);omega) ?_;rw[Av,if_neg (by intro h;exact absurd h.1 (by decide))];refine .iteP (by show 0+(1:Int).toNat+((l.1.length:Int).toNat-(1:Int).toNat)<=l.1.length;omega) (.ret h2 ?_);show ((l.1.drop (0+(1:Int).toNat)).take ((l.1.length:Int).toNat-(1:Int).toNat)).length<=5;rw[cH,cd];omega
 ·have hl:l.1.length=5:=hl;show (0:Int)<=1/\(1:Int)< (l.1.length:Int);omega
 ·have hl:l.1.length=5:=hl;show (1:Int).toNat<l.1.length;omega
 ·show (l.1.set _ _).length<=5;rw[Cd];exact Nat.le_of_eq hl
theorem WA{c:oS}(h:Dv c):Dn (λy:List sV×Unit=>y.1.length<=5) (OI [c]):=by
 unfold OI;refine .bind (V3 h) λc1 l h1 hl=> .iteP rfl (.bind (Eo h1 _) λc2 _ h2 _=> .iteP rfl ?_);have hl:l.1.length=5:=hl.1;refine .br (λ_=> ?_) λ_=> .br (λ_=> .bind (E7 h2 (by simp)) λc3 x h3 _=> .iteP rfl (.iteP (by show (0:Int)<=0/\(0:Int)< (l.1.length:Int);omega) (.get (by show (0:Int).toNat<l.1.length;omega) λ_ _=> .ret h3 ?_))) λ_=> .br (λ_=> .bind (E7 h2 (by simp)) λc3 x h3 _=> .iteP rfl (.iteP (by show (0:Int)<=1/\(1:Int)< (l.1.length:Int);omega) (.get (by show (1:Int).toNat<l.1.length;omega) λ_ _=> .ret h3 ?_))) λ_=> .ret h2 (Nat.le_of_eq hl)
 ·refine .iteP (by show (0:Int)<=1/\(1:Int)<=(l.1.length:Int)/\(l.1.length:Int)<=(l.1.length:Int);omega) ?_;rw[Av,if_neg (by intro h;exact absurd h.1 (by decide))];refine .iteP (by show 0+(1:Int).toNat+((l.1.length:Int).toNat-(1:Int).toNat)<=l.1.length;omega) (.ret h2 ?_);show ((l.1.drop (0+(1:Int).toNat)).take ((l.1.length:Int).toNat-(1:Int).toNat)).length<=5;rw[cH,cd];omega
 ·show (l.1.set _ _).length<=5;rw[Cd];omega
 ·show (l.1.set _ _).length<=5;rw[Cd];omega
theorem WN{c:oS}(h:Dv c):Dn (λy:oQ×Unit=>C0 1048576 y.1/\y.1.servers.length=5) (IW [c]):=by unfold IW;refine .bind (V3 h) λc1 l h1 hl=> .iteP rfl (.tt (Z6 l.1 (by have:=hl.1;omega)) λx hx=> .bind (Wg h1 (by omega) (by omega)) λc2 e h2 he=> .iteP rfl (.tt (Vn x.1 hx.1 e.1 (by omega)) λy hy=> .ret h2 ⟨hy.1.1,hy.1.2.trans (hx.2 hl.2)⟩))
theorem UD{c:oS}(h:Dv c):Dn (λy:oQ×Unit=>C0 1048576 y.1/\y.1.servers.length=5) (M5 [c]):=by unfold M5;refine .bind (WN h) λc1 x h1 hx=> .iteP rfl (.bind (Eo h1 _) λc2 _ h2 _=> .iteP rfl ?_);obtain⟨⟨x1,x2,x3,x4⟩,x5⟩:=hx;refine .br (λ_=> .bind (E7 h2 (by simp)) λc3 _ h3 _=> .iteP rfl (.ret h3 ⟨⟨x1,x2,x3,x4⟩,x5⟩)) λ_=> .br (λ_=> .bind (XZ h2) λc3 l h3 hl=> .iteP rfl (.ret h3 ⟨⟨x1,by show l.1.length<=_;omega,x3,x4⟩,x5⟩)) λ_=> .br (λ_=> .bind (aaH h2) λc3 m h3 hm=> .iteP rfl (.ret h3 ⟨⟨x1,x2,hm,x4⟩,x5⟩)) λ_=> .br (λ_=> .bind (E7 h2 (by simp)) λc3 _ h3 _=> .iteP rfl (.ret h3 ⟨⟨x1,x2,x3,x4⟩,x5⟩)) λ_=> .br (λ_=> .bind (Xj h2) λc3 _ h3 _=> .iteP rfl (.ret h3 ⟨⟨x1,x2,x3,x4⟩,x5⟩)) λ_=> .br (λ_=> .bind (WA h2) λc3 l h3 hl=> .iteP rfl (.ret h3 ⟨⟨x1,x2,x3,by show l.1.length<=_;omega⟩,x5⟩)) λ_=> .br (λ_=> .bind (WI h2) λc3 s h3 hs=> .iteP rfl (.bind (Hy h3 (n:=5) (by omega)) λc4 i h4 hi=> .iteP rfl (.iteP (by show 0<=i.1/\i.1< (x.1.servers.length:Int);rw[x5];exact hi) (.get (by show i.1.toNat<x.1.servers.length;omega) λ_ _=> .ret h4 ⟨⟨Ou x1 hs _,x2,x3,x4⟩,by show (x.1.servers.set _ _).length=5;rw[Cd];exact x5⟩)))) λ_=> .ret h2 ⟨⟨x1,x2,x3,x4⟩,x5⟩
omit [dp] in
end
end
section
theorem Tt.tru{r:Option (Bool×Unit)}(h:Tt (λy=>y.1=true) r):r=some (true,()):=by obtain⟨⟨b,_⟩,e,rfl⟩:=h;exact e
theorem ZW(l:List Int)(hl:l.length<=maxLen):Gu l l=some (true,()):=by
 refine Tt.tru ?_;unfold Gu;rw[CD,beq_self_eq_true];refine .br (λ_=> .bind (.count (B:=Ft) (E:=Sum.elim (λ_=>False) λ_=>True) l.length (λk (_:Unit)=>((l,l,(l.length:Int),(k:Int),()),(),())) (λ_ _=>True) (λ_ _=> .end (Cb _) (.ret trivial)) (λk _ hk _=> .go (Ca.2 hk) (.ip (B9 k) (.get (tn hk) λx e _=> .ip (B9 k) (.get (tn hk) λy e2 _=> ?_)))) () trivial) λy hy=> ?_) (λh=>by cases h)
 ·obtain rfl:x=y:=Option.some.inj ((show l[k]? =some x from e).symm.trans (show l[k]? =some y from e2));rw[beq_self_eq_true];exact .br (λh=>by cases h) λ_=> .ret ⟨(),by rw[Ad hl hk],trivial⟩
 ·cases y with
  |inl y=>exact hy.elim
  |inr y=>exact .ret rfl
theorem WU(l:List sV)(hl:l.length<=maxLen):G8 l l=some (true,()):=by
 refine Tt.tru ?_;unfold G8;rw[CD,beq_self_eq_true];refine .br (λ_=> .bind (.count (B:=Hp) (E:=Sum.elim (λ_=>False) λ_=>True) l.length (λk (_:Unit)=>((l,l,(l.length:Int),(k:Int),()),(),())) (λ_ _=>True) (λ_ _=> .end (Cb _) (.ret trivial)) (λk _ hk _=> .go (Ca.2 hk) (.ip (B9 k) (.get (tn hk) λx e _=> .ip (B9 k) (.get (tn hk) λy e2 _=> ?_)))) () trivial) λy hy=> ?_) (λh=>by cases h)
 ·obtain rfl:x=y:=Option.some.inj ((show l[k]? =some x from e).symm.trans (show l[k]? =some y from e2));simp only[beq_self_eq_true,Bool.and_self];exact .br (λh=>by cases h) λ_=> .ret ⟨(),by rw[Ad hl hk],trivial⟩
 ·cases y with
  |inl y=>exact hy.elim
  |inr y=>exact .ret rfl
theorem aam(s:oU)(h:C9 1048576 s):Fb s s=some (true,()):=by unfold Fb;simp only[beq_self_eq_true,A7,(Ej s.config s.config (CJ h.1)).2,WV s.log s.log (CI h.2.1),WV s.learned s.learned (CI h.2.2),decide_true,al]
theorem aaM(m:jr)(h:Ju 1048576 m):FP m m=some (true,()):=by
 have hl:=CI h.1;refine Tt.tru ?_;unfold FP DJ;rw[beq_self_eq_true,CD,beq_self_eq_true];refine .br (λ_=> .bind (Q:=λy=>y.1=true) (.br (λ_=> .bind (.count (B:=DA) (E:=Sum.elim (λ_=>False) λ_=>True) m.configs.length (λk (_:Unit)=>((m.configs,(),m.configs,(m.configs.length:Int),(k:Int),()),(),())) (λ_ _=>True) (λ_ _=> .end (Cb _) (.ret trivial)) (λk _ hk _=> .go (Ca.2 hk) (.ip (B9 k) (.get (tn hk) λx e hx=> .ip (B9 k) (.get (tn hk) λy e2 _=> ?_)))) () trivial) λy hy=> ?_) (λh=>by cases h)) λy hy=> .ret hy) (λh=>by cases h)
 ·obtain rfl:x=y:=Option.some.inj ((show m.configs[k]? =some x from e).symm.trans (show m.configs[k]? =some y from e2));rw[(Ej x x (CJ (h.2 x hx))).2,decide_eq_true rfl,al];exact .br (λh=>by cases h) λ_=> .ret ⟨(),by rw[Ad hl hk],trivial⟩
 ·cases y with
  |inl y=>exact hy.elim
  |inr y=>exact .ret rfl
theorem aaL(x:oQ)(ok:C0 1048576 x):Gx x x=some (true,()):=by
 have hl:=CI ok.1.1;refine Tt.tru ?_;unfold Gx Dr;simp only[beq_self_eq_true,Bool.and_self,A7,ZW x.sides (CI ok.2.1),aaM x.master ok.2.2.1,WU x.places (CI ok.2.2.2),al];rw[CD];refine .bind (Q:=λy=>y.1=true) (.br (λ_=> .bind (.count (B:=Da) (E:=Sum.elim (λ_=>False) λ_=>True) x.servers.length (λk (_:Unit)=>((x.servers,(),x.servers,(x.servers.length:Int),(k:Int),()),(),())) (λ_ _=>True) (λ_ _=> .end (Cb _) (.ret trivial)) (λk _ hk _=> .go (Ca.2 hk) (.ip (B9 k) (.get (tn hk) λs e hs=> .ip (B9 k) (.get (tn hk) λt e2 _=> ?_)))) () trivial) λy hy=> ?_) (λh=>by cases h)) λy hy=> .br (λ_=> .ret rfl) λh=>by rw[h] at hy;cases hy
 ·obtain rfl:s=t:=Option.some.inj ((show x.servers[k]? =some s from e).symm.trans (show x.servers[k]? =some t from e2));rw[aam s (ok.1.2 s hs),al];exact .br (λh=>by cases h) λ_=> .ret ⟨(),by rw[Ad hl hk],trivial⟩
 ·cases y with
  |inl y=>exact hy.elim
  |inr y=>exact .ret rfl
end
section

end
section
theorem Xi(x:oQ)(ok:C0 1048576 x): ∃c d,CK x.master=some (c,d,())/\D3 x.master=some (c,d,())/\Eg maxLen c:=by obtain⟨c,d,d1,d2,d3⟩:=KH x.master x.master.activated ok.2.2.1;unfold CK D3;rw[d1,d2];exact⟨c,d,rfl,rfl,d3⟩
end
section
structure Co (x y:oQ):Prop where
 sides:y.sides=x.sides
 master:y.master=x.master
 srv: ∀ (j:Nat) s,x.servers[j]? =some s-> ∃t,y.servers[j]? =some t/\t.up=s.up/\t.version=s.version/\t.epoch=s.epoch/\t.config=s.config
theorem Co.trans{x y z:oQ}(h:Co x y)(k:Co y z):Co x z:=⟨k.1.trans h.1,k.2.trans h.2,λj s hs=>by obtain⟨t,t1,t2,t3,t4,t5⟩:=h.srv j s hs;obtain⟨u,u1,u2,u3,u4,u5⟩:=k.srv j t t1;exact⟨u,u1,u2.trans t2,u3.trans t3,u4.trans t4,u5.trans t5⟩⟩
theorem Co.set{x y:oQ}(h:Co x y){i:Nat}{s t:oU}(hs:y.servers[i]? =some s)(h1:t.up=s.up)(h2:t.version=s.version)(h3:t.epoch=s.epoch)(h4:t.config=s.config):Co x ⟨y.now,y.servers.set i t,y.sides,y.master,y.masterUp,y.lease,y.places⟩:=
 h.trans ⟨rfl,rfl,λj u hu=>by
  by_cases hj:i=j
  ·subst hj;rw[hs] at hu;obtain rfl:=Option.some.inj hu;exact⟨t,Ct (Bz hs),h1,h2,h3,h4⟩
  ·exact⟨u,(Cp hj).trans hu,rfl,rfl,rfl,rfl⟩⟩
def Hr(x:oQ)(a b:Int):Prop:=∀p q,x.servers[a.toNat]? =some p->x.servers[b.toNat]? =some q->q.epoch=p.epoch/\q.config=p.config
theorem Co.hr{x y:oQ}(h:Co x y){a b:Int}(hh:Hr y a b):Hr x a b:=λp q hp hq=>by obtain⟨p',p1,_,_,p2,p3⟩:=h.srv _ _ hp;obtain⟨q',q1,_,_,q2,q3⟩:=h.srv _ _ hq;obtain⟨e1,e2⟩:=hh p' q' p1 q1;exact⟨q2.symm.trans (e1.trans p2),q3.symm.trans (e2.trans p3)⟩
theorem WB{s:oU}{id:Int}(ok:C9 1048576 s)(h:CT s id=some (true,())):s.epoch=s.config.epoch:=by
 obtain⟨v,v1,_⟩:=Ir s id ok;obtain⟨n,n1,_⟩:=Kg s.config id (CJ ok.1);unfold CT at h;simp only[v1,n1,al] at h;cases v with
 |false=>cases h
 |true=>
  cases hu:s.up with
  |false=>rw[hu] at h;cases h
  |true=>
   rw[hu] at h;cases hn:n==1 with
   |false=>rw[hn] at h;cases h
   |true=>rw[hn] at h;exact eq_of_beq (Prod.mk.inj (Option.some.inj h)).1
end
section
theorem Su:Dk [] =some (true,()):=(J1 [] (by unfold maxLen;decide)).2 ⟨by decide,λk h=>absurd h (Nat.not_lt_zero k)⟩
theorem RE{α:Type}{P:Prop}{b:Bool}{x y z:Option α}(h:br b x y=z)(h1:b=true->x=z->P)(h2:b=false->y=z->P):P:=by
 cases b with
 |true=>exact h1 rfl h
 |false=>exact h2 rfl h
end
section
def Ev{α:Type}(Q:α->Prop)(r:Option α):Prop:=∀a,r=some a->Q a
section
variable {α β σ ε:Type} {Q:α->Prop} {Q':β->Prop}
theorem Ev.ret{a:α}(h:Q a):Ev Q (some a):=λ_ e=>Option.some.inj e ▸ h
theorem Ev.no:Ev Q none:=nofun
theorem Ev.bd{r:Option α}{k:α->Option β}(hk: ∀a,r=some a->Ev Q' (k a)):Ev Q' (r.bind k):=λb e=>by
 cases r with
 |none=>cases e
 |some a=>exact hk a rfl b e
theorem Ev.bind{r:Option α}{k:α->Option β}(h:Ev Q r)(hk: ∀a,Q a->Ev Q' (k a)):Ev Q' (r.bind k):=.bd λa e=>hk a (h a e)
theorem Ev.br{b:Bool}{x y:Option α}(h1:b=true->Ev Q x)(h2:b=false->Ev Q y):Ev Q (Go.Proofs.YtkghndikalnipabGreat.En.br b x y):=by
 cases b with
 |true=>exact h1 rfl
 |false=>exact h2 rfl
theorem Ev.brn{b:Bool}{x y:Option α}(h1:b=true->Ev Q y)(h2:b=false->Ev Q x):Ev Q (Go.Proofs.YtkghndikalnipabGreat.En.br (!b) x y):=by
 cases b with
 |true=>exact h1 rfl
 |false=>exact h2 rfl
theorem Ev.ip{p:Prop}{d:Decidable p}{x:Option α}(h:p->Ev Q x):Ev Q (@iteP _ p d x none):=by
 by_cases hp:p
 ·rw[Ax hp];exact h hp
 ·rw[Aw hp];exact .no
theorem Ev.mono{Q2:α->Prop}{r:Option α}(h:Ev Q r)(hq: ∀a,Q a->Q2 a):Ev Q2 r:=λa e=>hq a (h a e)
theorem Ev.loop{B:σ->Option (σ⊕ε)}{E:ε->Prop}(I:σ->Prop)(h: ∀s,I s->Ev (Sum.elim I E) (B s)){s:σ}(hs:I s):Ev E (mh B s):=by
 intro e he;obtain⟨n,hn⟩:=jh.1 he;clear he
 induction n generalizing s with
 |zero=>cases hn
 |succ n ih=>
  unfold kr at hn;cases hB:B s with
  |none=>rw[hB] at hn;cases hn
  |some r=>
   rw[hB] at hn;have hr:=h s hs r hB;cases r with
   |inl s'=>exact ih hr hn
   |inr e'=>exact Option.some.inj hn ▸ hr
theorem Ev.count{B:σ->Option (σ⊕ε)}{E:ε->Prop}(m:Nat->β->σ)(J:Nat->β->Prop)(h: ∀k b,J k b->Ev (Sum.elim (λs=> ∃b',s=m (k+1) b'/\J (k+1) b') E) (B (m k b))){b:β}(hb:J 0 b):Ev E (mh B (m 0 b)):=
 Ev.loop (λs=> ∃k b,s=m k b/\J k b) (λs hs=>by
  obtain⟨k,b,rfl,hJ⟩:=hs;refine (h k b hJ).mono λr hr=> ?_;cases r with
  |inl s=>obtain⟨b',e,hJ'⟩:=hr;exact⟨k+1,b',e,hJ'⟩
  |inr e=>exact hr) ⟨0,b,rfl,hb⟩
end
theorem YR(l:List pS):Ev (λy=>y.1=l) (DP l):=by unfold DP;exact .ip λ_=> .ret (bC l)
end
section
theorem Uc{l:List pS}(hl:l.length<=maxLen)(h:Dk l=some (true,())){e:Int}(he:FL l=some (e,())): ∀x∈l,x.epoch<=e:=by
 obtain⟨_,h2⟩:=(J1 l hl).1 h
 have step: ∀k (hk:k+1<l.length),(l[k]'(by omega)).epoch<=(l[k+1]'hk).epoch:=by intro k hk;have h3:=h2 (k+1) hk;unfold Tg at h3;rw[an hk,show k+1-1=k from rfl,an (by omega)] at h3;simp at h3;omega
 have chain: ∀d k (hk:k+d<l.length),(l[k]'(by omega)).epoch<=(l[k+d]'hk).epoch:=by
  intro d
  induction d with
  |zero=>intro k hk;exact cJ _
  |succ d ih=>intro k hk;exact Int.le_trans (ih k (by omega)) (step (k+d) hk)
 intro x hx;obtain⟨k,hk,rfl⟩:=aO hx;unfold FL at he;unfold maxLen at hl;rw[show ((l.length:Int)==0)=false from beq_eq_false_iff_ne.2 (by omega),Af,uc (by omega) (by omega),Ax (by omega),an (by omega),al] at he;rw[<-(Prod.mk.inj (Option.some.inj he)).1];have h4:=chain (l.length-1-k) k (by omega);have e1:k+(l.length-1-k)=((l.length:Int)-1).toNat:=by omega
 simp only[e1] at h4;exact h4
theorem YW{l:List pS}{n:Int}(h0:0<=n)(h: ∀x∈l,x.epoch<=n):Ev (λy=>y.1<=n) (FL l):=by unfold FL;exact .br (λ_=> .ret h0) λ_=> .ip λ_=> .bd λx hx=> .ret (h x (aw hx))
theorem X5{s:oU}{id:Int}(ok:C9 1048576 s)(hv:CH s id=some (true,())): ∀e∈s.log,e.epoch<=s.config.epoch:=by
 have hc:=CJ ok.1;obtain⟨_,_,_,_,_,f6,f7,_⟩:=HV ok hv;obtain⟨e,e1,_⟩:=GP s.log (CI ok.2.1);obtain⟨n,n1,_⟩:=Kg s.config id hc;have no: ∀ {P:Prop},some (false,())=some (true,())->P:=λh=>by cases h
 unfold CH at hv;simp only[Dz,f6,f7,I2 s.config hc,n1,e1,al,CD,A7] at hv;refine RE hv (λ_ hv=>RE hv (λ_ hv=>RE hv (λ_ hv=>RE hv (λ_ hv=>RE hv (λ_ hv=>RE hv (λ_ hv=>RE hv (λ_ hv=>RE hv (λh0 _=> ?_) λ_ h=>no h) λ_ h=>no h) λ_ hv=>RE hv (λ_ hv=>RE hv (λ_ h=>no h) λ_ hv=>RE hv (λ_ h=>no h) λhle _=> ?_) λ_ h=>no h) λ_ h=>no h) λ_ h=>no h) λ_ h=>no h) λ_ h=>no h) λ_ h=>no h
 ·have h0: (s.log.length:Int)=0:=eq_of_beq h0;rw[aX (by omega:s.log.length=0)];exact nofun
 ·have hle: ¬e>s.config.epoch:=of_decide_eq_false hle
  exactλx hx=>Int.le_trans (Uc (CI ok.2.1) f6 e1 x hx) (by omega)
theorem SV.old2{m:jr}{s:oU}{k:Int}(h:SV m s k)(h0:0<=m.activated):s.config.epoch<=m.activated:=by
 rcases h.cfg with h| ⟨_,h⟩
 ·rw[h];exact h0
 ·exact h
theorem ZU{x:oQ}(ok:C0 1048576 x)(hv:CC x=some (true,())){k:Nat}{s:oU}(hs:x.servers[k]? =some s): ∀e,e∈s.learned\/e∈s.log->e.epoch<=x.master.activated:=by
 have vc:=DK ok hv;obtain⟨_,f2,_⟩:=Lq (DW ok.2.2.1) vc.ml;have hlt:=Bz hs;have sv:=PW ok hv k hlt;rw[an hlt] at hs;rw[Option.some.inj hs] at sv;have oks:C9 1048576 s:=Option.some.inj hs ▸ ok.1.2 _ (Cc hlt);obtain⟨_,_,_,_,_,_,f7,_⟩:=HV oks sv.val
 rintro e (he|he)
 ·obtain⟨n,n1,n2⟩:=sv.lrn;exact Int.le_trans (Uc (CI oks.2.2) f7 n1 e he) n2
 ·exact Int.le_trans (X5 oks sv.val e he) (sv.old2 f2)
def Lg(A:Int)(l:List pS):Prop:=Dk l=some (true,())/\ ∀e∈l,e.epoch<=A
section
variable {x:oQ} {A:Int} (hd: ∀ (k:Nat) s,x.servers[k]? =some s-> ∀e,e∈s.learned\/e∈s.log->e.epoch<=A)
include hd
end
end
section
theorem TM(c:mt):Ev (λy=>y.1=c) (Fx c):=by unfold Fx;exact .ip λ_=> .ip λ_=> .ret rfl
structure Ins (s t:oU) (c:mt) (l:List pS) (n:Int):Prop where
 up:t.up=s.up
 intact:t.intact=true
 version:t.version=s.version
 epoch:t.epoch=c.epoch
 config:t.config=c
 first:t.first=if n=3 then ((cutAt l:Nat):Int) else 0
 log:t.log=if n=3 then l.drop (cutAt l) else l
 commit:t.commit=(l.length:Int)
 learned:t.learned= []
theorem W4{s:oU}{c:mt}{id n:Int}{l:List pS}(hn:Dm c id=some (n,()))(h0:n≠0)(hl:Dk l=some (true,()))(hlen:l.length<=1048576)(hv:1<=s.version/\s.version<=2)(he:0<=s.epoch/\s.epoch<=c.epoch)(hc:0<=c.epoch)(ha: ∀e∈l,e.epoch<=c.epoch)(hf:s.version=1->DH l=some (false,())):Ev (λy=>Ins s y.1 c l n) (Dw s c id l):=by
 have e0: (n==0)=false:=beq_eq_false_iff_ne.2 h0;unfold Dw;rw[hn,al];show Ev _ (br (n==0) _ _);rw[e0,Af,hl,al];show Ev _ ((CM s.version 1 2).bind _);rw[Dz,CG.2 hv,al];show Ev _ ((CM s.epoch 0 c.epoch).bind _);rw[Dz,CG.2 he,al];refine .bind (YW hc ha) λy9 h9=> .br (λh=>absurd (of_decide_eq_true h) (by omega)) λ_=> ?_
 extract_lets j18
 have hj:Ev (λy=>Ins s y.1 c l n) j18:=by
  unfold j18;refine .bind (TM c) λy13 h13=> .bind (YR l) λy14 h14=> .br (λh3=> ?_) λh3=> ?_
  ·have h3:n=3:=eq_of_beq h3;rw[Qw l hlen];refine .ip λ_=> .bind (YR _) λy15 h15=> .ret ⟨rfl,rfl,rfl,rfl,h13,by rw[if_pos h3],?_,rfl,rfl⟩;rw[if_pos h3];show y15.1=_;rw[h15,B8,B8];exact bS (by rw[cd];omega)
  ·have h3: ¬n=3:=ne_of_beq_false h3;exact .ret ⟨rfl,rfl,rfl,rfl,h13,by rw[if_neg h3],by rw[if_neg h3];exact h14,rfl,rfl⟩
 refine .br (λh1=> ?_) λ_=>hj;rw[hf (eq_of_beq h1),al];exact hj
structure Uz (x y:oQ) (c:mt) (M:List Int) (l:List pS):Prop where
 chosen:Ey x.master=some (c,true,())
 members:C5 c=some (M,())
 newer:x.master.activated≠c.epoch
 now:y.now=x.now
 sides:y.sides=x.sides
 up:y.masterUp=x.masterUp
 places:y.places=x.places
 lease:y.lease=⟨0,0,0⟩
 master:y.master=⟨x.master.configs,c.epoch⟩
 isLog:Lg x.master.activated l
 mem: ∀z∈M,∃s t n,x.servers[z.toNat]? =some s/\s.up=true/\x.sides[z.toNat]? =some 0/\Dm c z=some (n,())/\y.servers[z.toNat]? =some t/\Ins s t c l n
 rest: ∀ (j:Nat) s,x.servers[j]? =some s->(∀z∈M,z.toNat≠j)-> ∃ep,y.servers[j]? =some (Vr s ep)/\SV x.master (Vr s ep) (j:Int)
 len:y.servers.length=x.servers.length
structure aaS (x y:oQ) (c:mt) (M:List Int) (l:List pS):Prop extends Uz x y c M l where
 source:Im x c.primary=some (l,true,())
 sealed: ∃w,GM x c.primary c.epoch=some (w,())/\ ∀ (j:Nat) s,w.servers[j]? =some s->(∀z∈M,z.toNat≠j)->y.servers[j]? =some s
theorem Vq{s:oU}{id:Int}(hv:CH s id=some (true,())):1<=s.version/\s.version<=2:=by
 unfold CH at hv;rw[Dz,al] at hv;cases h:Fr s.version 1 2 with
 |true=>exact CG.1 h
 |false=>rw[h] at hv;cases hv
end
section
theorem UL{l:List pS}(hl:l.length<=maxLen)(h:Dk l=some (true,()))(n:Nat):Dk (l.drop n)=some (true,()):=by
 obtain⟨h1,h2⟩:=(J1 l hl).1 h;refine (J1 _ (by rw[cd];omega)).2 ⟨by rw[cd];omega,λk hk=> ?_⟩;rw[cd] at hk;have h3:=h2 (n+k) (by omega);unfold Tg at h3 ⊢;rw[bc];cases k with
 |zero=>rw[bE] at h3 ⊢;rw[an (by omega)] at h3 ⊢;simp at h3 ⊢;exact⟨h3.1,h3.2.1⟩
 |succ k=>rw[bc,show n+(k+1)-1=n+k from by omega,an (by omega),an (by omega)] at*;simp at h3 ⊢;exact h3
theorem aar{m:jr}(hl:m.configs.length<=maxLen)(h: ∀k (hk:k<m.configs.length),CE m.configs[k] =some (true,())/\m.configs[k].epoch=(k:Int)+1)(ha:0<=m.activated/\m.activated<=(m.configs.length:Int)):CP m=some (true,()):=by
 refine Tt.tru ?_;unfold CP;refine .bind (.count (B:=Dd) (E:=Sum.elim (λ_=>False) λe=>e.2.1.1=(m.configs,m.activated,())) m.configs.length (λk (_:Unit)=>(((),(k:Int),()),((m.configs,m.activated,()),()),())) (λ_ _=>True) (λ_ _=> .end (Cb _) (.ret rfl)) (λk _ hk _=> .go (Ca.2 hk) (.ip (B9 k) ?_)) () trivial) λe he=> ?_
 ·have sw:=Ad hl hk;have hk2:=h k hk;have hg:m.configs[k]? =some m.configs[k] :=an hk;generalize m.configs[k] =c at hg hk2;refine .get (tn hk) λc' hc' _=> ?_;obtain rfl:c'=c:=Option.some.inj ((show m.configs[k]? =some c' from hc').symm.trans hg);refine .bind (Q:=λy=>y.1=true) ⟨_,hk2.1,rfl⟩ λy hy=> .br (λh=>by rw[hy] at h;cases h) λ_=> .ip (B9 k) (.get (tn hk) λd hd _=> .br (λhn=> ?_) λ_=> .ret ⟨(),by rw[sw],trivial⟩);obtain rfl:d=c':=Option.some.inj ((show m.configs[k]? =some d from hd).symm.trans hg);have hn: (!(d.epoch==IntKind.wrap .i64 ((k:Int)+1)))=true:=hn;rw[sw,hk2.2] at hn;simp at hn
 ·cases e with
  |inl e=>exact he.elim
  |inr e=>show Tt _ ((CM e.2.1.1.2.1 0 (e.2.1.1.1.length:Int)).bind _);rw[show e.2.1.1=_ from he,Dz,CG.2 ha];exact .ret rfl
theorem Ss{m:jr}(ok:Ju 1048576 m)(hv:CP m=some (true,())){a:Int}(hv':CP ⟨m.configs,a⟩=some (true,()))(e:Int):DG ⟨m.configs,a⟩ e=DG m e:=by unfold DG;rw[hv,hv']
theorem TH{x:oQ}(ok:C0 1048576 x)(hn:0<=x.now/\x.now<=999)(h5:x.servers.length=5)(hs:EP x.sides=some (true,()))(hm:CP x.master=some (true,()))(hu:0<=x.masterUp/\x.masterUp<=3)(hl:ES x.lease=some (true,()))(hp:Di x.places=some (true,()))(he:x.lease.epoch<=x.master.activated)(hS: ∀k (hk:k<x.servers.length),SV x.master x.servers[k] (k:Int)):CC x=some (true,()):=by
 rcases TE x ok with ⟨_,h1⟩| ⟨⟨k,hk,h0⟩,_⟩
 ·unfold CC;rw[h1];simp only[Dz,CG.2 hn,h5,hs,hm,CG.2 hu,hl,hp,al,CD,A7,Bq,if_neg (show ¬x.lease.epoch>x.master.activated by omega)];rfl
 ·exact absurd (hS k hk) h0
theorem XO{c:mt}(h:1<=c.epoch):c≠⟨0,0,[],[]⟩:=λe=>by rw[e] at h;exact absurd h (by decide)
theorem W3{s t:oU}{c:mt}{l:List pS}{n z:Int}(okt:C9 1048576 t)(h:Ins s t c l n)(hn:Dm c z=some (n,()))(h0:n≠0)(hl:Dk l=some (true,()))(hlen:l.length<=maxLen)(hv:1<=s.version/\s.version<=2)(hc:1<=c.epoch/\c.epoch<=20)(ha: ∀e∈l,e.epoch<=c.epoch):CH t z=some (true,()):=by
 have h16:=((J1 l hlen).1 hl).1;have hcut:cutAt l<=l.length:=Nat.sub_le _ _
 have tlog:Dk t.log=some (true,()):=by
  rw[h.log];split
  ·exact UL hlen hl _
  ·exact hl
 have tlen:t.first+(t.log.length:Int)=(l.length:Int)/\0<=t.first/\t.first<=16:=by
  rw[h.first,h.log];split
  ·rw[cd];omega
  ·omega
 obtain⟨e,e1,_⟩:=GP t.log (CI okt.2.1)
 have he:e<=c.epoch:=(YW (by omega) (λx hx=>ha x (by
  rw[h.log] at hx;split at hx
  ·exact bw hx
  ·exact hx))) _ e1
 have hcv:=CJ okt.1;unfold CH;rw[uc (n:=t.first+(t.log.length:Int)) (by omega) (by omega),tlen.1,h.learned,Su,tlog,h.version,h.epoch,h.commit,I2 t.config hcv,h.config,hn,h.intact,e1];simp only[Dz,CG.2 hv,CG.2 (show 0<=c.epoch/\c.epoch<=20 by omega),CG.2 tlen.2,CG.2 (show 0<=(l.length:Int)/\(l.length:Int)<=16 by omega),CG.2 (show 0<=(l.length:Int)/\(l.length:Int)<=(l.length:Int) by omega),al,CD,A7,Bq,if_neg (XO hc.1),if_neg (show ¬c.epoch<c.epoch by omega),if_neg (show ¬e>c.epoch by omega),show (n==0)=false from beq_eq_false_iff_ne.2 h0,Af];by_cases h3:n=3
 ·have hf:t.first=((cutAt l:Nat):Int):=by rw[h.first,if_pos h3]
  have hg: (t.log.length:Int)=(l.length:Int)-((cutAt l:Nat):Int):=by omega
  rw[show (n==3)=true from beq_iff_eq.2 h3,A7,if_pos (by rw[hg];unfold cutAt;omega),E8];split
  ·rfl
  ·next hne=>
   rw[hf];have :cutAt l=0:=by unfold cutAt at*;omega
   rw[this];rfl
 ·have hf:t.first=0:=by rw[h.first,if_neg h3]
  rw[show (n==3)=false from beq_eq_false_iff_ne.2 h3,Af,hf];rfl
theorem Uz.cfg{x y:oQ}{c:mt}{M:List Int}{l:List pS}(ok:C0 1048576 x)(hv:CC x=some (true,()))(h:Uz x y c M l):Eg maxLen c/\CE c=some (true,())/\c.epoch=(x.master.configs.length:Int)/\x.master.activated<c.epoch/\CP y.master=some (true,())/\DG y.master c.epoch=some (c,true,())/\(∀z∈M,0<=z/\z<5)/\(∀z,z∈M↔z∈c.replicas\/z∈c.witnesses):=by
 have vc:=DK ok hv;obtain⟨f1,f2,f3⟩:=Lq (DW ok.2.2.1) vc.ml;obtain⟨c',b',q1,_,q3,_,q5,_⟩:=GZ x.master (x.master.configs.length:Int) ok.2.2.1 vc.ml;have hch:=h.chosen;unfold Ey at hch;rw[q1] at hch;simp only[al,ae,ao,and_true] at hch;obtain⟨rfl,rfl⟩:=hch;obtain⟨cv,ce⟩:=q5 rfl;have hne:=h.newer
 have hm:CP y.master=some (true,()):=by rw[h.master];exact aar (DW ok.2.2.1).1 f1 ⟨by show 0<=c'.epoch;omega,by show c'.epoch<=(x.master.configs.length:Int);omega⟩
 obtain⟨M',m1,_,_,m4,_,m6⟩:=L9 c' q3;obtain rfl:M'=M:=(Prod.mk.inj (Option.some.inj (m1.symm.trans h.members))).1;refine⟨q3,cv,ce,by omega,hm,?_,m4,m6 cv⟩;rw[h.master] at hm ⊢;rw[Ss ok.2.2.1 vc.ml hm,ce];exact q1
theorem TJ{x y:oQ}{c:mt}{M:List Int}{l:List pS}(ok:C0 1048576 x)(hv:CC x=some (true,()))(oky:C0 1048576 y)(hl:l.length<=maxLen)(h:Uz x y c M l):CC y=some (true,()):=by
 have vc:=DK ok hv;obtain⟨c3,cv,ce,ca,hm,hat,m4,m6⟩:=h.cfg ok hv;obtain⟨_,_,_,e1,e20,_⟩:=FO c3 cv;have hcfg:y.master.configs=x.master.configs:=by rw[h.master]
 have hact:y.master.activated=c.epoch:=by rw[h.master]
 refine TH oky (by rw[h.now];exact vc.now) (by rw[h.len];exact vc.len) (by rw[h.sides];exact vc.sides) hm (by rw[h.up];exact vc.up) (by rw[h.lease];rfl) (by rw[h.places];exact vc.places) (by rw[h.lease,hact];show (0:Int)<=_;omega) λk hk=> ?_;have hk':k<x.servers.length:=by rw[<-h.len];exact hk
 have sv:=PW ok hv k hk';by_cases hM: ∃z∈M,z.toNat=k
 ·obtain⟨z,hz,rfl⟩:=hM;obtain⟨s,t,n,s1,_,_,n1,t1,hI⟩:=h.mem z hz;have hz4:=m4 z hz;have ez: ((z.toNat:Nat):Int)=z:=by omega
  rw[an hk] at t1;rw[Option.some.inj t1,ez];rw[an hk'] at s1;rw[Option.some.inj s1] at sv;have okt:C9 1048576 t:=Option.some.inj t1 ▸ oky.1.2 _ (Cc hk);obtain⟨n',n1',_,n3,_⟩:=XS c z c3 cv;obtain rfl:n'=n:=(Prod.mk.inj (Option.some.inj (n1'.symm.trans n1))).1;refine⟨W3 okt hI n1 (λh0=>n3.1 h0 ((m6 z).1 hz)) h.isLog.1 hl (Vq sv.val) ⟨e1,e20⟩ λe he=>by have:=h.isLog.2 e he;omega,by rw[hI.epoch,hcfg];omega,⟨0,by rw[hI.learned];rfl,by rw[hact];omega⟩,.inr ?_⟩;rw[hI.config,hact];exact⟨hat,cJ _⟩
 ·obtain⟨ep,t1,svw⟩:=h.rest k _ (an hk') λz hz e=>hM ⟨z,hz,e⟩;rw[an hk] at t1;rw[Option.some.inj t1];obtain⟨n,n1,n2⟩:=svw.lrn;refine⟨svw.val,by rw[hcfg];exact svw.ep,⟨n,n1,by rw[hact];omega⟩,svw.cfg.imp id λhc=>⟨?_,by rw[hact];have:=hc.2;omega⟩⟩;rw[h.master] at hm ⊢;rw[Ss ok.2.2.1 vc.ml hm];exact hc.1
theorem XW{y:oQ}{c:mt}{M:List Int}{t:oU}(oky:C0 1048576 y)(i5:CC y=some (true,()))(hla:CK y.master=some (c,true,()))(hm:C5 c=some (M,()))(t1:y.servers[c.primary.toNat]? =some t)(hpn:CT t c.primary=some (true,()))(he:t.config.epoch=c.epoch)(hh: ∀z∈M,ET y c.primary z=some (true,())):Dh y=some (c.primary,()):=by
 have eU:Ev (λr=>r.1=c.primary) (Dh y):=by
  unfold Dh;rw[hla,al,i5,al];refine .brn (λ_=> .brn (λ_=> .ip λ_=> .bd λp hp=> ?_) nofun) nofun;obtain rfl:p=t:=Option.some.inj ((show y.servers[c.primary.toNat]? =some p from hp).symm.trans t1);show Ev _ ((CT p c.primary).bind _);rw[hpn,al];refine .brn (λ_=> .ip λ_=> .bd λp2 hp2=> ?_) nofun;obtain rfl:p2=p:=Option.some.inj ((show y.servers[c.primary.toNat]? =some p2 from hp2).symm.trans t1);refine .brn (λ_=> ?_) λhf=>absurd (show (p2.config.epoch==c.epoch)=true by rw[he,beq_self_eq_true]) (by rw[show (p2.config.epoch==c.epoch)=false from hf];decide);show Ev _ ((C5 c).bind _);rw[hm,al];refine .bind (.loop (B:=DY) (E:=Sum.elim (λ_=>False) λe=>e.2.1.1.2.1=c.primary) (λs=>s.2=((fx y,(c.epoch,c.primary,(),(),()),()),M,c.replicas,c.witnesses,())) (λs hs=> ?_) rfl) λe he=> ?_
  ·obtain⟨a,b⟩:=s;have hs:b=_:=hs;subst hs;refine .br (λ_=> .ip λ_=> .bd λz hz=> ?_) λ_=> .ret rfl;show Ev _ ((ET y c.primary z).bind _);rw[hh z (aw (show M[_]? =some z from hz)),al];exact .brn (λ_=> .ret rfl) nofun
  ·cases e with
   |inl e=>exact he.elim
   |inr e=>exact .ret he
 obtain⟨r,r1,_⟩:=Nz y oky;rw[r1,show r=c.primary from eU _ r1]
structure Srv (y:oQ) (c:mt) (M:List Int) (t:oU):Prop where
 act:CK y.master=some (c,true,())
 mem:C5 c=some (M,())
 at':y.servers[c.primary.toNat]? =some t
 now:CT t c.primary=some (true,())
 ep:t.config.epoch=c.epoch
 rng:0<=c.primary/\c.primary<5
 hear: ∀z∈M,ET y c.primary z=some (true,())
theorem ZP{x y:oQ}{c:mt}{M:List Int}{l:List pS}(ok:C0 1048576 x)(hv:CC x=some (true,()))(oky:C0 1048576 y)(hl:l.length<=maxLen)(h:Uz x y c M l): ∃t,Srv y c M t:=by
 have i5:=TJ ok hv oky hl h;have vcy:=DK oky i5;obtain⟨c3,cv,ce,ca,hm,hat,m4,m6⟩:=h.cfg ok hv;obtain⟨_,_,cp,_⟩:=FO c3 cv;have hpM:=(m6 c.primary).2 (.inl cp);have hp4:=m4 _ hpM;obtain⟨s,t,n,s1,s2,s3,n1,t1,hI⟩:=h.mem _ hpM
 have n1':Dm c c.primary=some (1,()):=by unfold Dm;rw[cv,al,beq_self_eq_true];rfl
 obtain rfl:n=1:=(Prod.mk.inj (Option.some.inj (n1.symm.trans n1'))).1;have hlt:=Bz t1;have ez: ((c.primary.toNat:Nat):Int)=c.primary:=by omega
 have sv:=PW oky i5 _ hlt;have t1':=t1;rw[an hlt] at t1';rw[Option.some.inj t1',ez] at sv
 have hla:CK y.master=some (c,true,()):=by unfold CK;rw[show y.master.activated=c.epoch by rw[h.master],hat];rfl
 have hpn:CT t c.primary=some (true,()):=by unfold CT;rw[sv.val,al,hI.up,s2,hI.config,n1',al,hI.epoch];show some ((c.epoch==c.epoch),())=_;rw[beq_self_eq_true]
 have tl:t.log=l:=by rw[hI.log,if_neg (by decide)]
 have hh: ∀z∈M,ET y c.primary z=some (true,()):=λz hz=>by have hz4:=m4 z hz;obtain⟨sz,tz,nz,z1,z2,z3,z4,z5,hZ⟩:=h.mem z hz;rw[(YV y oky vcy hp4 hz4).1];unfold Qx Jw;rw[h.sides,s3,z3,z5,t1];simp only[hZ.up,z2,hZ.epoch,hI.epoch,hZ.commit,tl,hZ.config,hI.config,beq_self_eq_true,Bool.and_self,cJ,decide_true]
 exact⟨t,hla,h.members,t1,hpn,by rw[hI.config],hp4,hh⟩
theorem V8{x y:oQ}{c:mt}{M:List Int}{l:List pS}(ok:C0 1048576 x)(hv:CC x=some (true,()))(oky:C0 1048576 y)(hl:l.length<=maxLen)(h:Uz x y c M l):Dh y=some (c.primary,()):=by obtain⟨t,ht⟩:=ZP ok hv oky hl h;exact XW oky (TJ ok hv oky hl h) ht.act ht.mem ht.at' ht.now ht.ep ht.hear
end
section
def Gr(l:sS)(e h n:Int)(g:sS):Prop:=g.epoch=e/\g.holder=h/\(1<=e/\e<=20)/\(0<=h/\h<=4)/\(0<=n/\n<=999)/\n<g.ends/\g.ends<=1049/\(l.epoch=e->l.holder=h->l.ends<=g.ends)
theorem Gr.ok{l g:sS}{e h n:Int}(hg:Gr l e h n g):E0 g=some (true,())/\EW g n=some (false,())/\OG g e h n=some (decide (n+3<g.ends),()):=by
 obtain⟨rfl,rfl,h1,h2,h3,h4,h5,_⟩:=hg;have hz: (g.ends==0)=false:=beq_eq_false_iff_ne.2 (by omega)
 have il:E0 g=some (true,()):=by unfold E0;simp only[hz,CB,Bool.and_false,Af,Ja,CG.2 h1,CG.2 h2,CG.2 (show 1<=g.ends/\g.ends<=1049 by omega),al,A7]
 refine⟨il,?_,?_⟩
 ·unfold EW Je;simp only[il,Ja,CG.2 h3,al,A7,CD,hz,CB,Bool.and_false,Af,E8,Bq];rw[uc (n:=g.ends+3) (by omega) (by omega)];simp only[show ¬g.ends=0 by omega,if_false,al,decide_eq_false (show ¬n≥g.ends+3 by omega)]
 ·unfold OG;simp only[il,Ja,CG.2 h3,al,A7,CD,hz,CB,Bool.and_false,Af,E8,if_true];rw[uc (n:=n+3) (by omega) (by omega)]
section
variable [dp]
end
end
section
theorem Gr.lease{l g:sS}{e h n:Int}(hg:Gr l e h n g):ES g=some (true,()):=by obtain⟨rfl,rfl,h1,h2,h3,h4,h5,_⟩:=hg;have hz: (g.epoch==0)=false:=beq_eq_false_iff_ne.2 (by omega);unfold ES;rw[hz,CB,Af,Dz,CG.2 h1,al];show br true ((CM g.holder 0 4).bind _) _=_;rw[A7,Dz,CG.2 h2,al];show br true ((CM g.ends 1 1049).bind _) _=_;rw[A7,Dz,CG.2 (show 1<=g.ends/\g.ends<=1049 by omega)];rfl
theorem YI{y:oQ}{n:Int}(h:Dh y=some (n,()))(hn:0<=n):Ed y=some (true,()):=by unfold Ed;rw[h,al,decide_eq_true (show n≥0 from hn)]
end
section
structure Vs (s:oU) (id n:Int):Prop where
 ver:1<=s.version/\s.version<=2
 ep:0<=s.epoch/\s.epoch<=20
 log:Dk s.log=some (true,())
 lrn:Dk s.learned=some (true,())
 first:0<=s.first/\s.first<=16
 len:s.first+(s.log.length:Int)<=16
 commit:0<=s.commit/\s.commit<=s.first+(s.log.length:Int)
 cfg:s.config≠⟨0,0,[],[]⟩
 intact:s.intact=true
 le:s.config.epoch<=s.epoch
 all: ∀e∈s.log,e.epoch<=s.config.epoch
 role:Dm s.config id=some (n,())
 in':n≠0
 wit:n=3->s.log.length<=3/\(s.log.length=3\/s.first=0)
 rep:n≠3->s.first=0
theorem ZM{s:oU}{id:Int}(ok:C9 1048576 s)(hv:CH s id=some (true,()))(hc:s.config≠⟨0,0,[],[]⟩): ∃n,Vs s id n:=by
 have hcc:=CJ ok.1;obtain⟨f1,f2,f3,f4,f5,f6,f7,f8,f9⟩:=HV ok hv;have hle:=aaA ok hv;have hall:=X5 ok hv;have hver:=Vq hv;obtain⟨e,e1,_⟩:=GP s.log (CI ok.2.1);obtain⟨n,n1,_⟩:=Kg s.config id hcc;have no: ∀ {P:Prop},some (false,())=some (true,())->P:=λh=>by cases h
 unfold CH at hv;rw[uc (n:=s.first+(s.log.length:Int)) (by omega) (by omega)] at hv;simp only[Dz,f6,f7,I2 s.config hcc,decide_eq_false hc,n1,e1,al,CD,A7,Af] at hv;refine RE hv (λ_ hv=>RE hv (λ_ hv=>RE hv (λ_ hv=>RE hv (λhw hv=>RE hv (λ_ hv=>RE hv (λhi hv=>RE hv (λ_ h=>no h) λ_ hv=>RE hv (λ_ h=>no h) λ_ hv=>RE hv (λ_ h=>no h) λhn0 hv=> ?_) λ_ h=>no h) λ_ h=>no h) λ_ h=>no h) λ_ h=>no h) λ_ h=>no h) λ_ h=>no h;have hw:=CG.1 hw;refine⟨n,hver,⟨f8,f9⟩,f6,f7,⟨f1,f2⟩,hw.2,⟨f4,f5⟩,hc,hi,hle,hall,n1,ne_of_beq_false hn0,λh3=> ?_,λh3=> ?_⟩
 ·rw[show (n==3)=true from beq_iff_eq.2 h3,A7] at hv;refine RE (x:=_) hv (λhl hv=>RE hv (λh3l _=>⟨?_,.inl ?_⟩) λ_ hv=>⟨?_,.inr ?_⟩) λ_ h=>no h
  ·have : (s.log.length:Int)<=3:=of_decide_eq_true hl;omega
  ·have : (s.log.length:Int)=3:=eq_of_beq h3l;omega
  ·have : (s.log.length:Int)<=3:=of_decide_eq_true hl;omega
  ·exact eq_of_beq (Prod.mk.inj (Option.some.inj hv)).1
 ·rw[show (n==3)=false from beq_eq_false_iff_ne.2 h3,Af] at hv;exact eq_of_beq (Prod.mk.inj (Option.some.inj hv)).1
abbrev aau(w:oU)(l:List pS)(n:Int):oU:=if n=3 then ⟨w.up,w.intact,w.version,w.epoch,w.config,((cutAt l:Nat):Int),l.drop (cutAt l),w.commit,w.learned⟩ else ⟨w.up,w.intact,w.version,w.epoch,w.config,w.first,l,w.commit,w.learned⟩
structure Pu (x y:oQ) (id m:Int):Prop where
 valid:CC x=some (true,())
 rid:0<=id/\id<5
 rm:0<=m/\m<5
 ex: ∃u w n,x.servers[id.toNat]? =some u/\CT u id=some (true,())/\x.servers[m.toNat]? =some w/\ET x id m=some (true,())/\Dm u.config m=some (n,())/\(∃M,C5 u.config=some (M,())/\m∈M)/\y=ZN x (x.servers.set m.toNat (aau w u.log n))
structure Ck (x y:oQ):Prop where
 now:y.now=x.now
 sides:y.sides=x.sides
 master:y.master=x.master
 mup:y.masterUp=x.masterUp
 lease:y.lease=x.lease
 places:y.places=x.places
 len:y.servers.length=x.servers.length
 srv: ∀ (j:Nat) s,x.servers[j]? =some s-> ∃t,y.servers[j]? =some t/\t.up=s.up/\t.version=s.version/\t.epoch=s.epoch/\t.config=s.config/\t.commit=s.commit/\t.learned=s.learned
theorem Ck.trans{x y z:oQ}(h:Ck x y)(k:Ck y z):Ck x z:=⟨k.now.trans h.now,k.sides.trans h.sides,k.master.trans h.master,k.mup.trans h.mup,k.lease.trans h.lease,k.places.trans h.places,k.len.trans h.len,λj s hs=>by obtain⟨t,t1,a1,a2,a3,a4,a5,a6⟩:=h.srv j s hs;obtain⟨u,u1,b1,b2,b3,b4,b5,b6⟩:=k.srv j t t1;exact⟨u,u1,b1.trans a1,b2.trans a2,b3.trans a3,b4.trans a4,b5.trans a5,b6.trans a6⟩⟩
end
section
def Rl(S T:List oU):Prop:=T.length=S.length/\ ∀ (j:Nat) s,S[j]? =some s-> ∃t,T[j]? =some t/\t.up=s.up/\t.version=s.version/\t.epoch=s.epoch/\t.config=s.config/\t.learned=s.learned/\t.first=s.first/\t.log=s.log
theorem Rl.set{S T:List oU}(h:Rl S T){i:Nat}{q:oU}(hq:T[i]? =some q)(n:Int):Rl S (T.set i ⟨q.up,q.intact,q.version,q.epoch,q.config,q.first,q.log,n,q.learned⟩):=
 ⟨by rw[Cd];exact h.1,λj s hs=>by
  obtain⟨t,t1,t2⟩:=h.2 j s hs;by_cases hj:i=j
  ·subst hj;obtain rfl:t=q:=Option.some.inj (t1.symm.trans hq);exact⟨_,Ct (Bz hq),t2⟩
  ·exact⟨t,by rw[Cp hj];exact t1,t2⟩⟩
theorem UF(L:List mt)(n:mt)(act:Int)(hl:L.length<=100):Ev (λy=>y.2.1=true->y.1=n) (Ey ⟨L++ [n],act⟩):=by unfold Ey;refine .bind (Q:=λy=>y.2.1=true->y.1=n) ?_ λy hy=> .ret hy;unfold DG;refine .bd λ_ _=> .brn (λ_=> .bd λ_ _=> .brn (λ_=> .ip λ_=> .bd λc hc=> .bind (TM c) λy hy=> .ret λ_=> ?_) λ_=> .ret nofun) λ_=> .ret nofun;have hc: (L++ [n])[(IntKind.wrap .i64 (((L++ [n]).length:Int)-1)).toNat]? =some c:=hc;rw[bH,cm,uc (by omega) (by omega),show (((L.length+1:Nat):Int)-1).toNat=L.length by omega,aY (au _),cN] at hc;rw[hy];exact (Option.some.inj hc).symm
theorem Wf(L:List mt)(n:mt)(act e:Int)(hl:L.length<=100)(h1:CP ⟨L,act⟩=some (true,()))(h2:CP ⟨L++ [n],act⟩=some (true,()))(he:1<=e/\e<=(L.length:Int)):DG ⟨L++ [n],act⟩ e=DG ⟨L,act⟩ e:=by unfold DG;rw[h1,h2];simp only[Dz,CG.2 he,CG.2 (show 1<=e/\e<=(((L++ [n]).length:Nat):Int) by rw[bH,cm];omega),al,CD,A7];rw[uc (by omega) (by omega),aQ (by omega)]
end
section
def Dst(l:List pS):Prop:=∀ (i j:Nat) a b,l[i]? =some a->l[j]? =some b->a.op.client=b.op.client->a.op.seq=b.op.seq->i=j
def Pf(a b:List pS):Prop:=∀ (i:Nat) e,a[i]? =some e->b[i]? =some e
theorem Pf.refl(a:List pS):Pf a a:=λ_ _ h=>h
theorem Pf.trans{a b c:List pS}(h:Pf a b)(k:Pf b c):Pf a c:=λi e hi=>k i e (h i e hi)
theorem Pf.nil(a:List pS):Pf [] a:=λi e h=>by simp at h
theorem Pf.len{a b:List pS}(h:Pf a b):a.length<=b.length:=by
 rcases bh a.length with h0|h0
 ·omega
 ·have h1:=h (a.length-1) _ (an (by omega));have:=Bz h1;omega
theorem Pf.dst{a b:List pS}(h:Pf a b)(d:Dst b):Dst a:=λi j x y hi hj=>d i j x y (h i x hi) (h j y hj)
structure In (G H:List pS) (s:oU):Prop where
 len:s.first+(s.log.length:Int)<=(G.length:Int)
 log: ∀ (i:Nat) e,s.log[i]? =some e->G[s.first.toNat+i]? =some e
 com: ∀ (i:Nat),(i:Int)<s.commit-> ∃e,G[i]? =some e/\H[i]? =some e
structure Qs (x:oQ) (G:Int->List pS) (H:List pS):Prop where
 mem: ∀ (k:Nat) s,x.servers[k]? =some s->s.config≠⟨0,0,[],[]⟩->In (G s.config.epoch) H s/\(s.config.primary=(k:Int)->s.log=G s.config.epoch)/\(s.config.epoch=x.master.activated->(H.length:Int)<=s.first+(s.log.length:Int))
 dst: ∀e,Dst (G e)
 lrn: ∀ (k:Nat) s,x.servers[k]? =some s->Pf s.learned H
 act:Pf H (G x.master.activated)
 non:x.master.activated=0->H= []
def ZO(x:oQ):Prop:=∀ (k:Nat) p,x.servers[k]? =some p->p.config≠⟨0,0,[],[]⟩->p.config.epoch<x.master.activated-> ∀M,C5 p.config=some (M,())-> ∃m∈M,∀s,x.servers[m.toNat]? =some s-> ¬ (s.config=p.config/\s.epoch=p.config.epoch)
def Kw(x y:oQ):Prop:=y.master.activated=x.master.activated/\ ∀ (k:Nat) t,y.servers[k]? =some t-> ∃s,x.servers[k]? =some s/\((t.config=s.config/\s.epoch<=t.epoch/\t.first=s.first/\t.log=s.log/\t.commit=s.commit/\t.learned=s.learned)\/(t.config=⟨0,0,[],[]⟩/\t.learned= []))
theorem Qs.kw{x y:oQ}{G:Int->List pS}{H:List pS}(h:Qs x G H)(k:Kw x y):Qs y G H:=by
 refine⟨λj t ht hc=> ?_,h.dst,λj t ht=> ?_,?_,λe=>h.non (k.1.symm.trans e)⟩
 ·obtain⟨s,hs,⟨k1,_,k2,k3,k4,_⟩| ⟨k1,_⟩⟩:=k.2 j t ht
  ·obtain⟨⟨a1,a2,a3⟩,b,c⟩:=h.mem j s hs (k1 ▸ hc);rw[k1];exact⟨⟨by rw[k2,k3];exact a1,by rw[k2,k3];exact a2,by rw[k4];exact a3⟩,λe=>by rw[k3];exact b e,λe=>by rw[k2,k3];exact c (e.trans k.1)⟩
  ·exact absurd k1 hc
 ·obtain⟨s,hs,⟨_,_,_,_,_,k5⟩| ⟨_,k5⟩⟩:=k.2 j t ht
  ·rw[k5];exact h.lrn j s hs
  ·rw[k5];exact .nil _
 ·rw[k.1];exact h.act
theorem RC{x:oQ}(ok:C0 1048576 x)(hv:CC x=some (true,())){k:Nat}{s:oU}(hs:x.servers[k]? =some s):SV x.master s (k:Int)/\C9 1048576 s:=by have hlt:=Bz hs;have sv:=PW ok hv k hlt;have okx:=ok.1.2 _ (Cc hlt);rw[an hlt] at hs;rw[Option.some.inj hs] at sv okx;exact⟨sv,okx⟩
theorem ZO.kw{x y:oQ}(ok:C0 1048576 x)(hv:CC x=some (true,()))(h:ZO x)(k:Kw x y):ZO y:=by
 intro j p hp hc he M hM;obtain⟨s,hs,⟨k1,_⟩| ⟨k1,_⟩⟩:=k.2 j p hp
 ·rw[k1] at hc he hM ⊢;rw[k.1] at he;obtain⟨m,hm,hn⟩:=h j s hs hc he M hM;refine⟨m,hm,λt ht ⟨e1,e2⟩=> ?_⟩;obtain⟨u,hu,⟨q1,q2,_⟩| ⟨q1,_⟩⟩:=k.2 _ t ht
  ·rw[q1] at e1;obtain⟨su,oku⟩:=RC ok hv hu;obtain⟨n,v⟩:=ZM oku su.val (by rw[e1];exact hc);have hle:=v.le;rw[e1] at hle;exact hn u hu ⟨e1,by omega⟩
  ·exact hc (e1.symm.trans q1)
 ·exact absurd k1 hc
theorem YG{x:oQ}(ok:C0 1048576 x)(hv:CC x=some (true,())){j k:Nat}{s t:oU}(hs:x.servers[j]? =some s)(ht:x.servers[k]? =some t)(hc:s.config≠⟨0,0,[],[]⟩)(hd:t.config≠⟨0,0,[],[]⟩)(he:s.config.epoch=t.config.epoch):s.config=t.config:=by have h1:=((RC ok hv hs).1.cfg.resolve_left hc).1;have h2:=((RC ok hv ht).1.cfg.resolve_left hd).1;rw[he,h2] at h1;exact ((Prod.mk.inj (Option.some.inj h1)).1).symm
theorem Qs.prim{x:oQ}{G:Int->List pS}{H:List pS}(ok:C0 1048576 x)(hv:CC x=some (true,()))(h:Qs x G H){id:Int}(h0:0<=id){s:oU}(hs:x.servers[id.toNat]? =some s)(hc:s.config≠⟨0,0,[],[]⟩)(hp:s.config.primary=id):s.log=G s.config.epoch/\s.first=0:=by obtain⟨i1,i2,i3⟩:=h.mem _ s hs hc;have hG:s.log=G s.config.epoch:=i2 (by rw[hp];exact (Cy h0).symm);refine⟨hG,?_⟩;have hl:=i1.len;rw[<-hG] at hl;obtain⟨sv,oks⟩:=RC ok hv hs;have:=(HV oks sv.val).1;omega
theorem ZO.last{x:oQ}(ok:C0 1048576 x)(hv:CC x=some (true,()))(h:ZO x){id:Int}(hid:0<=id/\id<5){p:oU}(hp:x.servers[id.toNat]? =some p)(hpn:CT p id=some (true,())){M:List Int}(hM:C5 p.config=some (M,()))(hall: ∀m∈M,∀t,x.servers[m.toNat]? =some t->t.config=p.config/\t.epoch=p.epoch):p.config.epoch=x.master.activated:=by
 obtain⟨sv,okp⟩:=RC ok hv hp;have pf:=O8 okp hpn;have hc:p.config≠⟨0,0,[],[]⟩:=XO (FO (CJ okp.1) pf.1).2.2.2.1;have hle:=(sv.cfg.resolve_left hc).2;rcases Int.lt_or_eq_of_le hle with hlt|he
 ·obtain⟨m,hm,hn⟩:=h _ p hp hc hlt M hM;obtain⟨M',m1,_,_,m4,_⟩:=L9 p.config (CJ okp.1);obtain rfl:M'=M:=(Prod.mk.inj (Option.some.inj (m1.symm.trans hM))).1;obtain⟨t,t1,_⟩:=Of ok (DK ok hv) (m4 m hm);obtain⟨e1,e2⟩:=hall m hm t t1;exact absurd ⟨e1,e2.trans (WB okp hpn)⟩ (hn t t1)
 ·exact he
theorem Qs.commit{x y:oQ}{G:Int->List pS}{H:List pS}(ok:C0 1048576 x)(hv:CC x=some (true,()))(h:Qs x G H)(ho:ZO x){id:Int}(hid:0<=id/\id<5){p:oU}(hp:x.servers[id.toNat]? =some p)(hpn:CT p id=some (true,())){M:List Int}(hM:C5 p.config=some (M,()))(hall: ∀m∈M,∀t,x.servers[m.toNat]? =some t->t.config=p.config/\t.epoch=p.epoch/\t.first+(t.log.length:Int)=(p.log.length:Int))(hm:y.master=x.master)
  (hS: ∀ (k:Nat) t,y.servers[k]? =some t-> ∃s,x.servers[k]? =some s/\t.config=s.config/\t.first=s.first/\t.log=s.log/\t.learned=s.learned/\(t.commit=s.commit\/(t.commit=(p.log.length:Int)/\s.config=p.config))):Qs y G p.log:=by
 obtain⟨sv,okp⟩:=RC ok hv hp;have pf:=O8 okp hpn;have hc:p.config≠⟨0,0,[],[]⟩:=XO (FO (CJ okp.1) pf.1).2.2.2.1;have hA:=ho.last ok hv hid hp hpn hM λm hm t ht=>⟨(hall m hm t ht).1,(hall m hm t ht).2.1⟩
 obtain⟨hG,hf⟩:=h.prim ok hv hid.1 hp hc pf.2.symm;have hH:Pf H p.log:=by rw[hG,hA];exact h.act
 refine⟨λk t ht hct=> ?_,h.dst,λk t ht=> ?_,?_,λe=> ?_⟩
 ·obtain⟨s,s1,s2,s3,s4,_,s6⟩:=hS k t ht;rw[s2] at hct;obtain⟨⟨j1,j2,j3⟩,j4,j5⟩:=h.mem k s s1 hct;rw[s2];refine⟨⟨by rw[s3,s4];exact j1,by rw[s3,s4];exact j2,λi hi=> ?_⟩,λe=>by rw[s4];exact j4 e,λe=> ?_⟩
  ·rcases s6 with s6| ⟨s6,s7⟩
   ·rw[s6] at hi;obtain⟨a,a1,a2⟩:=j3 i hi;exact⟨a,a1,hH _ _ a2⟩
   ·rw[s6] at hi;have hi:i<p.log.length:=by omega
    rw[s7,<-hG];exact⟨_,an hi,an hi⟩
  ·have hsc:s.config=p.config:=YG ok hv s1 hp hct hc (by rw[hA,<-hm];exact e);obtain⟨ss,oks⟩:=RC ok hv s1;obtain⟨n,vs⟩:=ZM oks ss.val hct;obtain⟨n',n1,_,n3,_⟩:=XS s.config (k:Int) (CJ oks.1) (by rw[hsc];exact pf.1);obtain rfl:n'=n:=(Prod.mk.inj (Option.some.inj (n1.symm.trans vs.role))).1;obtain⟨M',m1,_,_,_,_,m6⟩:=L9 p.config (CJ okp.1);obtain rfl:M'=M:=(Prod.mk.inj (Option.some.inj (m1.symm.trans hM))).1;have hk: (k:Int)∈M':=(m6 pf.1 _).2 (by rw[<-hsc];exact Classical.byContradiction λh=>vs.in' (n3.2 h));have:=(hall _ hk s (by rw[B8];exact s1)).2.2;rw[s3,s4];omega
 ·obtain⟨s,s1,_,_,_,s5,_⟩:=hS k t ht;rw[s5];exact (h.lrn k s s1).trans hH
 ·rw[hm,<-hA,<-hG];exact .refl _
 ·rw[hm,<-hA] at e;have:=(FO (CJ okp.1) pf.1).2.2.2.1;omega
end
section
section
variable {x:oQ} {G:Int->List pS} {H:List pS} (ok:C0 1048576 x) (hv:CC x=some (true,())) (h:Qs x G H)
include ok hv h
end
end
section
section
variable {x:oQ} (P:List pS->Prop)
end
section
variable {x:oQ} {G:Int->List pS} {H:List pS} (ok:C0 1048576 x) (hv:CC x=some (true,())) (h:Qs x G H)
include ok hv h
end
structure Rg (x:oQ):Prop where
 ok:C0 1048576 x
 valid:CC x=some (true,())
 old:ZO x
 hist: ∃G H,Qs x G H
theorem Rg.kw{x y:oQ}(h:Rg x)(k:Kw x y)(ok:C0 1048576 y)(hv:CC y=some (true,())):Rg y:=by obtain⟨G,H,hh⟩:=h.hist;exact⟨ok,hv,h.old.kw h.ok h.valid k,G,H,hh.kw k⟩
theorem Sea.kw{x y:oQ}(hm:y.master=x.master)(hl:y.servers.length=x.servers.length)(h: ∀ (j:Nat) s,x.servers[j]? =some s-> ∃ep,y.servers[j]? =some (Vr s ep)/\s.epoch<=ep):Kw x y:=
 ⟨by rw[hm],λk t ht=>by have hlt:=Bz ht;rw[hl] at hlt;obtain⟨ep,e1,e2⟩:=h k _ (an hlt);obtain rfl:=Option.some.inj (e1.symm.trans ht);exact⟨_,an hlt,.inl ⟨rfl,e2,rfl,rfl,rfl,rfl⟩⟩⟩
end
section

end
section
theorem Rg.set{x:oQ}(h:Rg x){k:Nat}{s t:oU}(hs:x.servers[k]? =some s)(okt:C9 1048576 t)(sv:SV x.master t (k:Int))(hk: (t.config=s.config/\s.epoch<=t.epoch/\t.first=s.first/\t.log=s.log/\t.commit=s.commit/\t.learned=s.learned)\/(t.config=⟨0,0,[],[]⟩/\t.learned= [])):Rg (ZN x (x.servers.set k t)):=by
 have hlt:=Bz hs
 obtain⟨ok,hv⟩:=aad h.ok h.valid (x.servers.set k t) Cd (λu hu=>(cL hu).elim (h.ok.1.2 u) λe=>e ▸ okt) λj hj=>by
  rw[List.getElem_set];split
  ·next e=>subst e;exact sv
  ·exact PW h.ok h.valid j (by rw[Cd] at hj;exact hj)
 refine h.kw ⟨rfl,λj u hu=> ?_⟩ ok hv;have hu: (x.servers.set k t)[j]? =some u:=hu;by_cases e:k=j
 ·subst e;rw[Ct hlt] at hu;obtain rfl:=Option.some.inj hu;exact⟨s,hs,hk⟩
 ·rw[Cp e] at hu;exact⟨u,hu,.inl ⟨rfl,cJ _,rfl,rfl,rfl,rfl⟩⟩
theorem Rg.rest{x:oQ}(h:Rg x)(n u:Int)(sd:List Int)(L:sS)(hn:0<=n/\n<=999)(hu:0<=u/\u<=3)(hsl:sd.length<=1048576)(hsd:EP sd=some (true,()))(hL:ES L=some (true,()))(he:L.epoch<=x.master.activated):Rg ⟨n,x.servers,sd,x.master,u,L,x.places⟩:=by
 have vc:=DK h.ok h.valid;have ok:C0 1048576 (⟨n,x.servers,sd,x.master,u,L,x.places⟩:oQ):=⟨h.ok.1,hsl,h.ok.2.2⟩
 exact h.kw ⟨rfl,λk t ht=>⟨t,ht,.inl ⟨rfl,cJ _,rfl,rfl,rfl,rfl⟩⟩⟩ ok (TH ok hn vc.len hsd vc.ml hu hL vc.places he (show ∀k (hk:k<x.servers.length),SV x.master x.servers[k] (k:Int) from PW h.ok h.valid))
theorem Z0{x:oQ}(hv:CC x=some (true,()))(ok:C0 1048576 x):x.lease.epoch<=x.master.activated:=by obtain⟨b1,a1,_⟩:=JO x.sides (CI ok.2.1);obtain⟨b2,m1,_⟩:=masterLog x.master (DW ok.2.2.1);obtain⟨b3,l1,_⟩:=Ll x.lease;obtain⟨b4,p1,_⟩:=Jc x.places (CI ok.2.2.2);unfold CC at hv;simp only[Dz,a1,m1,l1,p1,al] at hv;refine Classical.byContradiction λhn=> ?_;have hd:decide (x.lease.epoch>x.master.activated)=true:=decide_eq_true (by omega);revert hv;simp only[hd];cases Fr x.now 0 999<;>cases ((x.servers.length:Int)==5)<;>cases b1<;>cases b2<;>cases Fr x.masterUp 0 3<;>cases b3<;>cases b4<;>intro hv<;>cases hv
end
section
theorem UC(x:oQ): ∀ (l:List Int) (b:Int),l.foldl (FY x) b=b\/l.foldl (FY x) b∈l:=by
 intro l
 induction l with
 |nil=>intro b;exact .inl rfl
 |cons id l ih=>
  intro b;rcases ih (FY x b id) with h|h
  ·rw[List.foldl_cons,h];unfold FY;split
   ·exact .inr aF
   ·split
    ·exact .inr aF
    ·exact .inl rfl
  ·exact .inr (aE _ h)
theorem ZV{x:oQ}(ok:C0 1048576 x)(hv:CC x=some (true,())){k:Nat}{s:oU}(hs:x.servers[k]? =some s)(id:Int):Lg x.master.activated (Oh s id):=by
 have hd:=ZU ok hv hs;obtain⟨sv,oks⟩:=RC ok hv hs;obtain⟨_,_,_,_,_,f6,f7,_⟩:=HV oks sv.val
 have cp:Lg x.master.activated (MW s):=by
  unfold MW;split
  ·exact⟨UM (CI oks.2.1) f6 _,λe he=>hd e (.inr (bK he))⟩
  ·exact⟨Su,nofun⟩
 have lr:Lg x.master.activated s.learned:=⟨f7,λe he=>hd e (.inl he)⟩
 unfold Oh;split
 ·split
  ·exact cp
  ·exact lr
 ·exact lr
theorem aaa{x:oQ}(ok:C0 1048576 x)(hv:CC x=some (true,())){n:mt}(hn:Eg 1048576 n)(e1:CE n=some (true,()))(e2:n.epoch=(x.master.configs.length:Int)+1):
  Dg x.master n=some (⟨x.master.configs++ [n],x.master.activated⟩,true,())/\C0 1048576 ⟨x.now,x.servers,x.sides,⟨x.master.configs++ [n],x.master.activated⟩,x.masterUp,x.lease,x.places⟩/\CP ⟨x.master.configs++ [n],x.master.activated⟩=some (true,())/\
  CC ⟨x.now,x.servers,x.sides,⟨x.master.configs++ [n],x.master.activated⟩,x.masterUp,x.lease,x.places⟩=some (true,()):=by
 have vc:=DK ok hv;obtain⟨f1,f2,f3⟩:=Lq (DW ok.2.2.1) vc.ml;have hml:=VZ ok.2.2.1 vc.ml;obtain⟨r,b,p1,_,p3,_⟩:=Oe x.master n ok.2.2.1 hn
 have pp:Dg x.master n=some (⟨x.master.configs++ [n],x.master.activated⟩,true,()):=by unfold Dg;have hs: (x.master.configs++ [n]).length*64<=2 ^ 40:=Pb (by simp;omega) (by decide);simp only[(Ls x.master ok.2.2.1).1,(IB n hn).1,vc.ml,e1,al,CD,E8,A7,uc (n:=(x.master.configs.length:Int)+1) (by omega) (by omega),if_pos e2,Av,if_pos hs]
 rw[pp] at p1;obtain rfl:=(Prod.mk.inj (Option.some.inj p1)).1
 have hm:CP ⟨x.master.configs++ [n],x.master.activated⟩=some (true,()):=aar (DW p3).1 (λk hk=>by
  have hk:k< (x.master.configs++ [n]).length:=hk;rw[bH,cm] at hk;show CE ((x.master.configs++ [n])[k])=_/\((x.master.configs++ [n])[k]).epoch=_;by_cases hk2:k<x.master.configs.length
  ·rw[List.getElem_append_left hk2];exact f1 k hk2
  ·rw[List.getElem_append_right (by omega),List.getElem_singleton];exact⟨e1,by omega⟩) ⟨f2,by show x.master.activated<=(((x.master.configs++ [n]).length:Nat):Int);rw[bH,cm];omega⟩
 have okX:C0 1048576 ⟨x.now,x.servers,x.sides,⟨x.master.configs++ [n],x.master.activated⟩,x.masterUp,x.lease,x.places⟩:=⟨ok.1,ok.2.1,p3,ok.2.2.2⟩
 refine⟨pp,okX,hm,TH okX vc.now vc.len vc.sides hm vc.up vc.lease vc.places (show x.lease.epoch<=x.master.activated from Z0 hv ok) (show ∀k (hk:k<x.servers.length),SV ⟨x.master.configs++ [n],x.master.activated⟩ x.servers[k] (k:Int) fromλk hk=> ?_)⟩;obtain⟨a1,a2,a3,a4⟩:=PW ok hv k hk;refine⟨a1,by show _<=(((x.master.configs++ [n]).length:Nat):Int);rw[bH,cm];omega,a3,a4.imp id λ⟨b1,b2⟩=>⟨?_,b2⟩⟩;obtain⟨c',b',q1,_,_,q4,_⟩:=GZ x.master x.servers[k].config.epoch ok.2.2.1 vc.ml;rw[b1] at q1;have q1:=Option.some.inj q1;have hb:b'=true:=(Prod.mk.inj (Prod.mk.inj q1).2).1.symm;rw[hb] at q4;rw[Wf x.master.configs n x.master.activated _ (by omega) vc.ml hm (CG.1 q4.symm)];exact b1
theorem TK{x:oQ}(ok:C0 1048576 x)(hv:CC x=some (true,())){n:Int}(hn:0<=n/\n<5)(hlen:x.master.configs.length<20){s:oU}(hs:x.servers[n.toNat]? =some s)(hup:s.up=true)(hsd:x.sides[n.toNat]? =some 0){l:List pS}(hl:l.length<=1048576)(lg:Lg x.master.activated l)
  (hf:s.version=1->DH l=some (false,())) {m a:jr} {mb ab rb:Bool} {r:oU} (h1:Dg x.master ⟨(x.master.configs.length:Int)+1,n,[n],[]⟩=some (m,mb,())) (h2:De m ((x.master.configs.length:Int)+1)=some (a,ab,()))
  (h3:Dw s ⟨(x.master.configs.length:Int)+1,n,[n],[]⟩ n l=some (r,rb,())) (oky:C0 1048576 ⟨x.now,x.servers.set n.toNat r,x.sides,a,x.masterUp,⟨0,0,0⟩,x.places⟩):Ed ⟨x.now,x.servers.set n.toNat r,x.sides,a,x.masterUp,⟨0,0,0⟩,x.places⟩=some (true,()):=by
 have vc:=DK ok hv;obtain⟨f1,f2,f3⟩:=Lq (DW ok.2.2.1) vc.ml;have hcc:Eg 1048576 (⟨(x.master.configs.length:Int)+1,n,[n],[]⟩:mt):=⟨by simp,by simp⟩
 have cv:CE ⟨(x.master.configs.length:Int)+1,n,[n],[]⟩=some (true,()):=Vv ⟨by omega,by omega⟩ (λk hk=>by
  have hk:k<1:=hk;obtain rfl:k=0:=by omega
  exact⟨⟨hn.1,show n<=4 by omega⟩,λh=>absurd h (by omega)⟩) (λk hk=>absurd hk (Nat.not_lt_zero k)) aF λ_ _=>nofun
 obtain⟨pp,okX,hm,hvX⟩:=aaa ok hv hcc cv rfl;rw[pp] at h1;obtain rfl:=(Prod.mk.inj (Option.some.inj h1)).1
 have aa:De ⟨x.master.configs++ [⟨(x.master.configs.length:Int)+1,n,[n],[]⟩],x.master.activated⟩ ((x.master.configs.length:Int)+1)=some (⟨x.master.configs++ [⟨(x.master.configs.length:Int)+1,n,[n],[]⟩],(x.master.configs.length:Int)+1⟩,true,()):=by
  unfold De;have e1: (x.master.configs.length:Int)+1=(((x.master.configs++ [(⟨(x.master.configs.length:Int)+1,n,[n],[]⟩:mt)]).length:Nat):Int):=by rw[bH,cm];omega
  have e2: ¬ (x.master.configs.length:Int)+1<=x.master.activated:=by omega
  simp only[(Ls _ okX.2.2.1).1,hm,al,CD,E8,A7,Bq,if_pos e1,if_neg e2]
 rw[aa] at h2;obtain rfl:=(Prod.mk.inj (Option.some.inj h2)).1
 have rl:Dm ⟨(x.master.configs.length:Int)+1,n,[n],[]⟩ n=some (1,()):=by unfold Dm;simp only[cv,al,CD,A7,E8,if_true]
 obtain⟨sv,oks⟩:=RC ok hv hs;rw[Cy hn.1] at sv;obtain⟨_,_,_,_,_,_,_,f8,_⟩:=HV oks sv.val;have hep:=sv.ep;have ins:=W4 (s:=s) (l:=l) rl (by decide) lg.1 hl (Vq sv.val) ⟨f8,show s.epoch<=(x.master.configs.length:Int)+1 by omega⟩ (show (0:Int)<=(x.master.configs.length:Int)+1 by omega) (λe he=>by have:=lg.2 e he;show e.epoch<=(x.master.configs.length:Int)+1;omega) hf _ h3;obtain⟨M,m1,_,_,_,_,m6⟩:=L9 ⟨(x.master.configs.length:Int)+1,n,[n],[]⟩ (CJ hcc)
 have hM: ∀z∈M,z=n:=λz hz=>by
  rcases (m6 cv z).1 hz with h|h
  ·exact aH.1 h
  ·cases h
 have ch:Ey ⟨x.master.configs++ [⟨(x.master.configs.length:Int)+1,n,[n],[]⟩],x.master.activated⟩=some (⟨(x.master.configs.length:Int)+1,n,[n],[]⟩,true,()):=by
  obtain⟨c',b',q1,_,_,q4,_⟩:=GZ ⟨x.master.configs++ [⟨(x.master.configs.length:Int)+1,n,[n],[]⟩],x.master.activated⟩ (((x.master.configs++ [(⟨(x.master.configs.length:Int)+1,n,[n],[]⟩:mt)]).length:Nat):Int) okX.2.2.1 hm;have hb:b'=true:=q4.trans (CG.2 ⟨by rw[bH,cm];omega,cJ _⟩);subst hb;have hl:Ey ⟨x.master.configs++ [⟨(x.master.configs.length:Int)+1,n,[n],[]⟩],x.master.activated⟩=some (c',true,()):=by unfold Ey;rw[q1];rfl
  have:=UF x.master.configs _ x.master.activated (by omega) _ hl rfl;rw[hl,show c'=_ from this]
 have hlt:=Bz hs
 have act:Uz ⟨x.now,x.servers,x.sides,⟨x.master.configs++ [⟨(x.master.configs.length:Int)+1,n,[n],[]⟩],x.master.activated⟩,x.masterUp,x.lease,x.places⟩
   ⟨x.now,x.servers.set n.toNat r,x.sides,⟨x.master.configs++ [⟨(x.master.configs.length:Int)+1,n,[n],[]⟩],(x.master.configs.length:Int)+1⟩,x.masterUp,⟨0,0,0⟩,x.places⟩ ⟨(x.master.configs.length:Int)+1,n,[n],[]⟩ M l:=by
  refine⟨ch,m1,?_,rfl,rfl,rfl,rfl,rfl,rfl,lg,λz hz=> ?_,λj t ht hj=> ?_,?_⟩
  ·show x.master.activated≠(x.master.configs.length:Int)+1;omega
  ·obtain rfl:=hM z hz;exact⟨s,r,1,hs,hup,hsd,rl,by show (x.servers.set z.toNat r)[z.toNat]? =some r;rw[Ct hlt],ins⟩
  ·have hne:n.toNat≠j:=by
    have h5: ∃z,z∈M:=⟨n,(m6 cv n).2 (.inl aF)⟩
    exact hj n ((m6 cv n).2 (.inl aF))
   have ht:x.servers[j]? =some t:=ht;refine⟨t.epoch,by show (x.servers.set n.toNat r)[j]? =some t;rw[Cp hne];exact ht,?_⟩;have:=(RC okX hvX ht).1;exact this
  ·show (x.servers.set n.toNat r).length=x.servers.length;rw[Cd]
 exact YI (V8 okX hvX oky (CI hl) act) hn.1
theorem Wh(x:oQ):Ev (λy=>y.2.1=0->Fg x=some (true,())) (Fa x):=by unfold Fa;exact .bd λ_ _=> .bd λy2 h2=> .brn (λe2=>λ_ _ _=>h2.trans (congrArg some (Prod.ext e2 rfl))) λ_=> .ret nofun
theorem ZX(x:oQ)(ok:C0 1048576 x): ∃y n,Fa x=some (y,n,())/\Gy x=some (y,n,())/\C0 1048576 y/\(n=0->Ed y=some (true,())):=by
 obtain⟨n,n1,n2⟩:=VH x ok;obtain⟨b,b1,b2⟩:=PF x ok;unfold Fa Gy JK;simp only[(Fu x ok).1,(Fu x ok).2,n1,n2,b1,b2,al,CD];have dn: ∀c:Int,c≠0-> ∃y n,some (x,c,())=some (y,n,())/\some (x,c,())=some (y,n,())/\C0 1048576 y/\(n=0->Ed y=some (true,())):=λc hc=>⟨x,c,rfl,rfl,ok,λh=>absurd h hc⟩
 cases b with
 |false=>exact dn 1 (by decide)
 |true=>
 have hv:CC x=some (true,()):=by
  obtain⟨v,v1,v2⟩:=Ea x ok;cases v with
  |true=>exact v1
  |false=>unfold F1 at b2;rw[v2] at b2;cases b2
 have vc:=DK ok hv;have hml:x.master.configs.length<=20:=VZ ok.2.2.1 vc.ml;obtain⟨q,q1,q2⟩:=Nd x.lease x.now
 have hn:n= -1\/(0<=n/\n<5/\EY x n.toNat=true):=by
  have:=Ud x ok hv;rw[n1] at this;simp only[ae,ao,and_true] at this;rcases UC x (Mj (EY x) 5) (-1) with h|h
  ·exact .inl (this.trans h)
  ·rw[<-this] at h;obtain⟨k,k1,k2,rfl⟩:=(OJ _ _ _).1 h;exact .inr ⟨by omega,by omega,by rw[B8];exact k2⟩
 have hup:=vc.up;have w1:IntKind.wrap .i64 (x.masterUp*2)=x.masterUp*2:=uc (by omega) (by omega);have w2:IntKind.wrap .i64 (2*x.masterUp)=2*x.masterUp:=uc (by omega) (by omega);have w3:IntKind.wrap .i64 ((x.master.configs.length:Int)+1)=(x.master.configs.length:Int)+1:=uc (by omega) (by omega);simp only[A7,w1,w2,w3,q1,q2,al,Bq,E8];by_cases c1: (x.master.configs.length:Int)=20
 ·have c1': (x.master.configs.length:Int)≥20:=by omega
  simp only[if_pos c1,if_pos c1'];exact dn 1 (by decide)
 have c1': ¬ (x.master.configs.length:Int)≥20:=by omega
 simp only[if_neg c1,if_neg c1'];by_cases c2:x.masterUp*2<=3
 ·have c2': ¬2*x.masterUp>3:=by omega
  simp only[if_pos c2,if_neg c2'];exact dn 8 (by decide)
 have c2':2*x.masterUp>3:=by omega
 simp only[if_neg c2,if_pos c2'];rcases hn with rfl|hn
 ·simp only[if_pos (show (-1:Int)<0 by decide),if_true];exact dn 10 (by decide)
 have c3: ¬n<0:=by omega
 have c3': ¬n= -1:=by omega
 simp only[if_neg c3,if_neg c3'];cases q with
 |false=>exact dn 7 (by decide)
 |true=>
 have hlt:n.toNat<x.servers.length:=by rw[vc.len];omega
 obtain⟨s,hg⟩: ∃s,x.servers[n.toNat]? =some s:=⟨_,an hlt⟩
 obtain⟨sv,hok⟩:=RC ok hv hg;rw[Cy hn.1] at sv;have d2:=(SO _ n hok sv.val).2;have d1:=WO x ok hv n hn.1 hn.2.1;have e1:Lk x n=Oh s n:=by unfold Lk;rw[hg]
 rw[e1] at d1;have dl:=WP s n hok;have lg:=ZV ok hv hg n;have hal:=hn.2.2;unfold EY Sr LI at hal;rw[hg] at hal;simp only[aj] at hal
 have hsd:x.sides[n.toNat]? =some 0:=by
  have h2:=hal.2;split at h2
  ·rename_i t ht;rw[ht,show t=0 from eq_of_beq h2]
  ·cases h2
 generalize Oh s n=l at*;have c4: (0:Int)<=n/\n< (x.servers.length:Int):=by rw[vc.len];omega
 have nf:=Tq l (CI dl);have es: (⟨s.up,s.intact,s.version,s.epoch,(⟨s.config.epoch,s.config.primary,s.config.replicas,s.config.witnesses⟩:mt),s.first,s.log,s.commit,s.learned⟩:oU)=s:=rfl;have hcc:Eg 1048576 (⟨(x.master.configs.length:Int)+1,n,[n],[]⟩:mt):=⟨by simp,by simp⟩
 obtain⟨m,mb,m1,m2,m3,m4,_⟩:=Oe x.master ⟨(x.master.configs.length:Int)+1,n,[n],[]⟩ ok.2.2.1 hcc;obtain⟨a,ab,a1,a2,a3,a4,_⟩:=Qu m ((x.master.configs.length:Int)+1) m3;obtain⟨r,rb,r1,r2,r3,r4,_⟩:=RH s ⟨(x.master.configs.length:Int)+1,n,[n],[]⟩ n l hok hcc dl
 have fin: (s.version=1->Tp l=false)-> ∃y k,some ((⟨x.now,x.servers.set n.toNat r,x.sides,a,x.masterUp,⟨0,0,0⟩,x.places⟩:oQ),(0:Int),())=some (y,k,())/\some ((⟨x.now,x.servers.set n.toNat r,x.sides,a,x.masterUp,⟨0,0,0⟩,x.places⟩:oQ),(0:Int),())=some (y,k,())/\C0 1048576 y/\(k=0->Ed y=some (true,())):=by
  intro hf;have oky:C0 1048576 (⟨x.now,x.servers.set n.toNat r,x.sides,a,x.masterUp,⟨0,0,0⟩,x.places⟩:oQ):=⟨(Vt ok n.toNat r3).1,ok.2.1,a3,ok.2.2.2⟩
  refine⟨_,_,rfl,rfl,oky,λ_=>TK ok hv ⟨hn.1,hn.2.1⟩ (by omega) hg hal.1 hsd dl lg (λhv1=> ?_) m1 a1 r1 oky⟩;have h:=nf.1;rw[hf hv1] at h;unfold Dy at h;obtain⟨z,z1,_⟩:=Vi l (CI dl);rw[z1,al] at h;have hz:z=false:=(Prod.mk.inj (Option.some.inj h)).1;rw[z1,hz]
 simp only[A7,Av,if_pos hn.1,if_pos c4,hg,al,d1,d2,nf.1,nf.2,E8,aL,au,if_true,ct,Ce,es,m1,m2,a1,a2,r1,r2];by_cases hver:s.version=1
 ·simp only[if_pos hver];cases hF:Tp l with
  |true=>exact dn 6 (by decide)
  |false=>exact fin λ_=>hF
 ·simp only[if_neg hver];exact fin λh=>absurd h hver
end
end Go.Proofs.YtkghndikalnipabGreat.En
namespace Go.Proofs.YtkghndikalnipabGreat.En
open Go.IntKind renaming wrap→aaV
open Go
def Rm(x y:Op):Bool:=(x.client==y.client)&&((x.seq==y.seq)&&((x.kind==y.kind)&&((x.object==y.object)&&((x.old==y.old)&&((x.value==y.value)&&true)))))
def J6(log:List pS)(a:Bh):Bool:=match Fr a.index 0 ((log.length:Int)-1),log[a.index.toNat]? with
 |true,some e=> !Rm e.op a.op
 | _,_=>true
theorem XM(acks:List Bh)(log:List pS)(ha:acks.length<=1048576)(hl:log.length<=1048576):GL acks log=some (acks.filter (J6 log),())/\GK acks log=some (acks.filter (J6 log),()):=by
 have hm:=CI ha
 have small: ∀ (k:Nat) (x:Bh),((acks.take k).filter (J6 log)++ [x]).length*56<=2 ^ 40:=by
  intro k x;have h1: ((acks.take k).filter (J6 log)).length<=acks.length:=aR (Cn _ _) (by simp;omega);have e: (2:Nat) ^ 40=1099511627776:=by decide
  rw[bH,cm];omega
 have next: ∀k (hk:k<acks.length),(acks.take (k+1)).filter (J6 log)=(acks.take k).filter (J6 log)++if J6 log acks[k] =true then [acks[k]] else [] :=by
  intro k hk;rw[Cg,an hk,Ch]
  congr 1
  cases h:J6 log acks[k]<;>simp[h]
 have eU:=Be (B1:=FG) (B2:=FE) acks.length (λk=>((acks,log,(),(k:Int),()),(),((acks.take k).filter (J6 log),()))) (λk=>((log,(),acks,(acks.length:Int),(k:Int),()),(),((acks.take k).filter (J6 log),())))
  (((),()),(),(acks.filter (J6 log),())) (((),()),(),(acks.filter (J6 log),())) (λ_=>(((),()),(),([],()))) (λ_=>(((),()),(),([],()))) (λ_=>True) (λ_=>False)
  (by simp only[FG];rw[Bq,if_neg (by omega),Ce])
  (by simp only[FE];rw[Bq,if_neg (by omega),Ce])
  (λk hk=>by
    have c1: (k:Int)< (acks.length:Int):=by omega
    have c2: (0:Int)<=(k:Int):=by omega
    left;rw[next k hk];simp only[FG,FE,Bq,Av,if_pos c1,if_pos c2,B8,an hk,al,Dz,Ja,CD,uc (n:=(log.length:Int)-1) (by omega) (by omega),if_pos (small k acks[k]),Ad hm hk];cases hw:Fr acks[k].index 0 ((log.length:Int)-1) with
    |false=>
     have :J6 log acks[k] =true:=by unfold J6;rw[hw]
     rw[this];exact⟨rfl,rfl,trivial⟩
    |true=>
     have hw':=CG.1 hw;have hlt:acks[k].index.toNat<log.length:=by omega
     have hms:J6 log acks[k] = !Rm log[acks[k].index.toNat].op acks[k].op:=by unfold J6;rw[hw,an hlt]
     simp only[A7,if_pos hw'.1,an hlt,al];rw[hms];show br (Rm log[acks[k].index.toNat].op acks[k].op) _ _=_/\br (Rm log[acks[k].index.toNat].op acks[k].op) _ _=_/\True;cases Rm log[acks[k].index.toNat].op acks[k].op with
     |false=>exact⟨rfl,rfl,trivial⟩
     |true=>simp only[A7,cS,aM,if_false,bM];exact⟨trivial,trivial,trivial⟩)
 unfold GL GK;rcases eU with ⟨k1,k2,_⟩| ⟨k,_,_,_,hf⟩
 ·rw[show ME ((acks,log,(),0,()),(),([],()))=_ from k1,show MC ((log,(),acks,(acks.length:Int),0,()),(),([],()))=_ from k2];exact⟨rfl,rfl⟩
 ·exact hf.elim
section
variable [dp]
abbrev aaq(a:mt)(d:Bool)(k:Nat)(z:oS×oQ): (Unit×Unit×Unit×Unit×Bool×Int×Unit)×((Int×Unit×Unit×Unit×Int×Int×Int×Int×Int×Unit×Unit)×(Int×Unit×Unit×Unit×Int×Int×Int×Int×Int×Unit×Unit)×(Int×Int×Unit×Unit×Unit)×Unit)×List oS×List oU×List Int×List mt×List sV×List Int×List Int×Unit:=
 (((),(),(),(),d,(k:Int),()),((0,(),(),(),0,0,0,0,0,(),()),(z.2.now,(),(),(),z.2.master.activated,z.2.masterUp,z.2.lease.epoch,z.2.lease.holder,z.2.lease.ends,(),()),(a.epoch,a.primary,(),(),()),()),[z.1],z.2.servers,z.2.sides,z.2.master.configs,z.2.places,a.replicas,a.witnesses,())
theorem Yp{c:oS}(h:Dv c):Dn (λy:oQ×Unit=>C0 1048576 y.1) (LQ [c]):=by
 unfold LQ;refine .bind (UD h) λc1 y h1 hy=> .iteP rfl ?_;obtain⟨a,d,d1,_,d3⟩:=Xi y.1 hy.1;show Dn _ ((CK y.1.master).bind _);rw[d1,al];have hr:a.replicas.length<=maxLen:=d3.1;refine .tt (Q:=λe=> ∃z:oS×oQ,Dv z.1/\C0 1048576 z.2/\e=(((),(),()),((0,(),(),(),0,0,0,0,0,(),()),(z.2.now,(),(),(),z.2.master.activated,z.2.masterUp,z.2.lease.epoch,z.2.lease.holder,z.2.lease.ends,(),()),()),[z.1],z.2.servers,z.2.sides,z.2.master.configs,z.2.places,())) (.count (B:=Lj) a.replicas.length (aaq a d) (λ_ z=>Dv z.1/\C0 1048576 z.2) (λz hz=> ?_) (λk z hk hz=> ?_) (c1,y.1) ⟨h1,hy.1⟩) λe he=> ?_
 ·exact .end (Cb _) (.ret ⟨z,hz.1,hz.2,rfl⟩)
 ·refine .go (Ca.2 hk) (.br (λ_=> .dn (FC hz.1 6) λc2 _ h2 _=> .ip rfl (.br (λ_=> .ip ⟨B9 k,Ca.2 hk⟩ (.get (tn hk) λx27 _ _=> ?_)) λ_=> .ret ⟨(c2,z.2),h2,hz.2,rfl⟩)) λ_=> .ret ⟨z,hz.1,hz.2,rfl⟩);obtain⟨y2,n2,e1,ok2,_⟩:=YX z.2 hz.2 x27;rw[show H7 _ x27=_ from e1,al];exact .ret ⟨(c2,y2),by rw[Ad hr hk],h2,ok2⟩
 ·obtain⟨z,z1,z2,rfl⟩:=he;exact .ret z1 z2
theorem WT{x:Hd}{l:List Int}(h:jZ x=some l)(hl:l.length<=maxLen)(hb: ∀m∈l,0<=m/\m<=255):Tt (λy=>C0 1048576 y.1) (Fc x):=by unfold Fc;exact .dn (XN h hl hb) λc1 _ h1 _=> .dn (Yp h1) λc2 y h2 hy=> .ip rfl (.ret hy)
theorem WS{x:Hd}{l:List Int}(h:jZ x=some l)(hl:l.length<=maxLen)(hb: ∀m∈l,0<=m/\m<=255):Tt (λy=>y.1.length<=18/\y.2.1.length<=17) (E3 x):=by
 unfold E3;refine .dn (XN h hl hb) λc1 _ h1 _=> .dn (Sx h1) λc2 y h2 hy=> .ip rfl (.bind (Q:=λe=> ∃ (z:oS×List Bh),Dv z.1/\z.2.length<=17/\e=(((),(),(),()),(),[z.1],y.1,z.2,())) (.count (B:=F5) y.1.length (λk (z:oS×List Bh)=>(((),(),(),(k:Int),()),(),[z.1],y.1,z.2,())) (λk z=>Dv z.1/\z.2.length<=k) (λz hz=> ?_) (λk z hk hz=> ?_) (c2,[]) ⟨h2,bL _⟩) λe he=> ?_)
 ·exact .end (Cb _) (.ret ⟨z,hz.1,aR hz.2 hy,rfl⟩)
 ·have hs: ∀k':Bh,(z.2++ [k']).length*56<=2 ^ 40:=λk'=>by
   have e: (2:Nat) ^ 40=1099511627776:=by decide
   have:=hz.2;rw[bH,cm];omega
  refine .go (Ca.2 hk) (.dn (FC hz.1 2) λc3 _ h3 _=> .ip rfl (.br (λ_=> .ip ⟨B9 k,Ca.2 hk⟩ (.get (tn hk) λx8 _ _=> .ip (hs _) (.ret ⟨(c3,_),by rw[Ad (CI (by omega)) hk],h3,?_⟩))) λ_=> .ret ⟨(c3,z.2),by rw[Ad (CI (by omega)) hk],h3,Ci hz.2⟩));show (z.2++ [_]).length<=k+1;rw[bH,cm];exact Nat.succ_le_succ hz.2
 ·obtain⟨z,z1,z2,rfl⟩:=he;refine .dn (FC z1 3) λc3 _ h3 _=> .ip rfl ?_
  have fin: ∀ {c:oS} {p:List Bh},Dv c->p.length<=18->Tt (λw:List Bh×List pS×Unit=>w.1.length<=18/\w.2.1.length<=17) ((CF [c] (aaV .i64 ((y.1.length:Int)+1))).bind λy16=>iteP (y16.1.length= [c].length) (iteP (0<=(0:Int)/\(0:Int)<=(aaV .i64 ((y.1.length:Int)-(aaV .i64 (Int.tdiv y16.2.1 2))))/\(aaV .i64 ((y.1.length:Int)-(aaV .i64 (Int.tdiv y16.2.1 2))))<=((y.1.length:Nat):Int)) (iteP ((0+(0:Int).toNat)+((aaV .i64 ((y.1.length:Int)-(aaV .i64 (Int.tdiv y16.2.1 2)))).toNat-(0:Int).toNat)<=y.1.length) ((DP ((y.1.drop (0+(0:Int).toNat)).take ((aaV .i64 ((y.1.length:Int)-(aaV .i64 (Int.tdiv y16.2.1 2)))).toNat-(0:Int).toNat))).bind λy17=>some (p,y17.1,())) none) none) none):=by
   intro c p hc hp;rw[uc (n:=(y.1.length:Int)+1) (by omega) (by omega)];refine .dn (Hy hc (n:=(y.1.length:Int)+1) (by omega)) λc4 w h4 hw=> .ip rfl ?_
   have hd:0<=Int.tdiv w.1 2/\Int.tdiv w.1 2<=(y.1.length:Int):=by rw[Int.tdiv_eq_ediv_of_nonneg hw.1];have:=hw.2;omega
   show Tt _ (iteP (0<=(0:Int)/\(0:Int)<=(aaV .i64 ((y.1.length:Int)-(aaV .i64 (Int.tdiv w.1 2))))/\(aaV .i64 ((y.1.length:Int)-(aaV .i64 (Int.tdiv w.1 2))))<=((y.1.length:Nat):Int)) (iteP ((0+(0:Int).toNat)+((aaV .i64 ((y.1.length:Int)-(aaV .i64 (Int.tdiv w.1 2)))).toNat-(0:Int).toNat)<=y.1.length) ((DP ((y.1.drop (0+(0:Int).toNat)).take ((aaV .i64 ((y.1.length:Int)-(aaV .i64 (Int.tdiv w.1 2)))).toNat-(0:Int).toNat))).bind λy17=>some (p,y17.1,())) none) none);generalize Int.tdiv w.1 2=t at hd ⊢;rw[uc (n:=t) (by omega) (by omega),uc (n:=(y.1.length:Int)-t) (by omega) (by omega)];refine .ip ⟨cJ _,by omega,by omega⟩ (.ip (by omega) ?_)
   have hle: ((y.1.drop (0+(0:Int).toNat)).take (((y.1.length:Int)-t).toNat-(0:Int).toNat)).length<=17:=by rw[cH,cd];omega
   rw[(IC _ (by omega)).1,al];exact .ret ⟨hp,hle⟩
  refine .br (λ_=> .dn (Uo h3) λc5 o h5 _=> .ip rfl (.dn (E7 h5 (by decide)) λc6 i h6 _=> .ip rfl (.ip ?_ (fin h6 ?_)))) λ_=>fin h3 (by show z.2.length<=18;omega)
  ·show (z.2++ [_]).length*56<=2 ^ 40;have e: (2:Nat) ^ 40=1099511627776:=by decide
   rw[bH,cm];omega
  ·show (z.2++ [_]).length<=18;rw[bH,cm];omega
omit [dp] in
theorem XU(a:List Bh)(ha:a.length<=maxLen):LB (((),(),0,()),(),a,a,())=some (.inr (((),()),(),())):=by
 obtain⟨e,e1,e2⟩:=Tt.count (B:=JH) (E:=λe=>e= .inr (((),()),(),())) a.length (λk (_:Unit)=>(((),(),(k:Int),()),(),a,a,())) (λ_ _=>True) (λ_ _=> .end (Cb _) (.ret rfl)) (λk _ hk _=>by refine .go (Ca.2 hk) (.ip ⟨B9 k,Ca.2 hk⟩ (.get (tn hk) λz z1 _=> .ip ⟨B9 k,Ca.2 hk⟩ (.get (tn hk) λw w1 _=> ?_)));obtain rfl:z=w:=Option.some.inj (z1.symm.trans w1);simp only[beq_self_eq_true,cR,cS,Af];exact .ret ⟨(),by rw[Ad ha hk],trivial⟩) () trivial
 rw[e2] at e1;exact e1
theorem U4(x:Hd)(l:List Int)(h:jZ x=some l)(hl:l.length<=maxLen)(hb: ∀m∈l,0<=m/\m<=255):Mp x=some (true,()):=by
 refine Tt.tru ?_;unfold Mp;refine .bind (Q:=T1) (by unfold WX;exact .ret trivial) λ_ _=> .br (λ_=> .ret rfl) λ_=> .bind (WT h hl hb) λa ha=> ?_;obtain⟨y,n,s1,i1,oky,hsv⟩:=ZX a.1 ha;obtain⟨b,b1,b2⟩:=PF a.1 ha;obtain⟨k,k1,k2⟩:=VH a.1 ha;simp only[i1,s1,aaL y oky,b1,b2,k1,k2,al,beq_self_eq_true,cS,Af]
 have rest:Tt (λy:Bool×Unit=>y.1=true) ((E3 x).bind λy12=>(GK y12.1 y12.2.1).bind λy13=>(GL y12.1 y12.2.1).bind λy14=>br (!((y13.1.length:Int)==(y14.1.length:Int))) (some (false,())) ((LB (((),(),0,()),(()),y13.1,y14.1,())).bind λe20=>Sum.elim (λe20_0=>some e20_0.1) (λ_=>some (true,())) e20)):=by refine .bind (WS h hl hb) λp hp=> ?_;obtain⟨m1,m2⟩:=XM p.1 p.2.1 (by omega) (by omega);have hm: (p.1.filter (J6 p.2.1)).length<=maxLen:=CI (aR (Cn _ _) (by omega));rw[m2,al,m1,al,beq_self_eq_true,cS,Af,XU _ hm,al];exact .ret rfl
 refine .br (λh0=> ?_) λ_=>rest;have h0:n=0:=eq_of_beq h0;have ht:=Wh a.1 _ s1 h0;rw[b1] at ht;obtain rfl:=(Prod.mk.inj (Option.some.inj ht)).1;obtain⟨q,q1,q2⟩:=Wn y oky;have hq:=hsv h0;rw[q1] at hq;obtain rfl:=(Prod.mk.inj (Option.some.inj hq)).1;simp only[q2,al,cS,Af];exact rest
end
end Go.Proofs.YtkghndikalnipabGreat.En
namespace Go.Proofs.YtkghndikalnipabGreat.En
open Go
end Go.Proofs.YtkghndikalnipabGreat.En
