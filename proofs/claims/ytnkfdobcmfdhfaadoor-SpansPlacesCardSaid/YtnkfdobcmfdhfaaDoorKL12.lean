import Derived.Test.YtnkfdobcmfdhfaaDoorKL11

