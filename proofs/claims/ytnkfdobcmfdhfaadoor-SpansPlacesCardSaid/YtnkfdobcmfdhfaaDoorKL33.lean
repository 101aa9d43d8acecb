import Derived.Test.YtnkfdobcmfdhfaaDoorKL28

