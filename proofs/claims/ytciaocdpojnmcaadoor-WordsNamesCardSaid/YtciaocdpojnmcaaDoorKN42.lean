import Derived.SizedLaws
import Derived.ChangeSlices

